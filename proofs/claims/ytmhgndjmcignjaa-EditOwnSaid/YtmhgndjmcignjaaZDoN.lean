/-
  The doer's one: which of its ways a command goes; around what plain does.
-/
import Derived.Test.YtmhgndjmcignjaaZDoM
import Derived.Test.YtmhgndjmcignjaaZJ7

namespace Go.Proofs.Ytmhgndjmcignjaa
open Go.RowKit
set_option linter.unusedVariables false
set_option linter.unusedSimpArgs false

/-- A key of a motion. -/
def isMv (v : Int) : Bool := v == 104 || (v == 108 || (v == 48 || (v == 94 || (v == 36 || (v == 124 || (v == 119 || (v == 87 || (v == 98 || (v == 66 || (v == 101 || (v == 69 || (v == 37 || (v == 102 || (v == 70 || (v == 116 || (v == 84 || (v == 59 || (v == 44))))))))))))))))))
/-- The command that is done at last. -/
def effF (o v : Int) : Int × Int := if o = 0 then (match shortF v with | some p => p | none => (0, v)) else (o, v)
theorem shortF_op {v : Int} {p : Int × Int} (h : shortF v = some p) : p.1 = 100 ∨ p.1 = 99 ∨ p.1 = 121 := by
  unfold shortF at h
  repeat' split at h
  all_goals first
    | (injection h with h; subst h; simp; done)
    | cases h
theorem effF_op {o v : Int} (h : o = 0 ∨ o = 100 ∨ o = 99 ∨ o = 121) : (effF o v).1 = 0 ∨ (effF o v).1 = 100 ∨ (effF o v).1 = 99 ∨ (effF o v).1 = 121 := by
  unfold effF
  split
  · split
    · rename_i h1
      exact .inr (shortF_op h1)
    · exact .inl rfl
  · exact h
/-- What an operator's span is, but by a motion. -/
def SpanIs (l : List Int) (n a : Nat) (o v k5 : Int) (f t : Nat) (whole : Bool) : Prop :=
  (v = o ∧ f = 0 ∧ t = n ∧ whole = true) ∨ (v ≠ o ∧ (v = 105 ∨ v = 97) ∧ whole = false ∧ ofK l a (v == 97) k5 f t 0)
def OnePost (g : Nat) (l : List Int) (n a : Nat) (rl : Nat → List Int) (k1 k2 o v k5 fk fa : Int) (PPost : World → Array Value → Prop) (w : World) (cs : Array Value) : Prop :=
  (isMv v = true ∧ MovePost g l n a rl k1 k2 o v k5 fk fa w cs) ∨ (isMv v = false ∧ o = 0 ∧ PPost w cs) ∨
  (isMv v = false ∧ o ≠ 0 ∧ ∃ f t whole m at_ md rl' e, f ≤ t ∧ t ≤ n ∧ SpanIs l n a o v k5 f t whole ∧ OutIs w (g + 1) cs m at_ md fk fa rl' e ∧ OpRel l a rl k2 o f t whole m at_ md rl' e)
/-- What an operator wants of what is no motion. -/
def ObjOk (l : List Int) (n a : Nat) (rl : Nat → List Int) (k2 o v k5 : Int) : Prop :=
  (v = o ∧ OpOk l rl k2 o 0 n) ∨ (v ≠ o ∧ (v = 105 ∨ v = 97) ∧ ∃ f t : Nat, ofK l a (v == 97) k5 f t 0 ∧ OpOk l rl k2 o f t)
theorem ofW_one {l : List Int} {k : Nat} {ar big : Bool} {x y er x' y' er' : Int} (h : ofW l k ar big x y er) (h' : ofW l k ar big x' y' er') : x = x' ∧ y = y' ∧ er = er' := by
  rcases h with ⟨h1, h2, h3, h4⟩ | ⟨h1, h2, h3, h4⟩ <;> rcases h' with ⟨g1, g2, g3, g4⟩ | ⟨g1, g2, g3, g4⟩
  · exact ⟨h3.trans g3.symm, h4.trans g4.symm, h2.trans g2.symm⟩
  · omega
  · omega
  · exact ⟨h3.trans g3.symm, h4.trans g4.symm, h2.trans g2.symm⟩
theorem ofB_one {l : List Int} {k : Nat} {ar : Bool} {o x y er x' y' er' : Int} (h : ofB l k ar o x y er) (h' : ofB l k ar o x' y' er') : x = x' ∧ y = y' ∧ er = er' := by
  rcases h with ⟨i, b, h1, h2, h3, h4⟩ | ⟨h1, h2, h3, h4⟩ <;> rcases h' with ⟨i', b', g1, g2, g3, g4⟩ | ⟨g1, g2, g3, g4⟩
  · obtain ⟨rfl, rfl⟩ := found_one h1 g1
    exact ⟨h3.trans g3.symm, h4.trans g4.symm, h2.trans g2.symm⟩
  · exact absurd g1 (found_not h1)
  · exact absurd h1 (found_not g1)
  · exact ⟨h3.trans g3.symm, h4.trans g4.symm, h2.trans g2.symm⟩
theorem ofQ_one {l : List Int} {k : Nat} {ar : Bool} {q x y er x' y' er' : Int} (h : ofQ l k ar q x y er) (h' : ofQ l k ar q x' y' er') : x = x' ∧ y = y' ∧ er = er' := by
  rcases h with ⟨i, b, h1, h2, h3, h4⟩ | ⟨h1, h2, h3, h4⟩ <;> rcases h' with ⟨i', b', g1, g2, g3, g4⟩ | ⟨g1, g2, g3, g4⟩
  · obtain ⟨rfl, rfl⟩ := foundQ_one h1 g1
    exact ⟨h3.trans g3.symm, h4.trans g4.symm, h2.trans g2.symm⟩
  · exact absurd g1 (foundQ_no h1)
  · exact absurd h1 (foundQ_no g1)
  · exact ⟨h3.trans g3.symm, h4.trans g4.symm, h2.trans g2.symm⟩
theorem ofK_one {l : List Int} {k : Nat} {ar : Bool} {key x y er x' y' er' : Int} (h : ofK l k ar key x y er) (h' : ofK l k ar key x' y' er') : x = x' ∧ y = y' ∧ er = er' := by
  rcases h with ⟨hk, h⟩ | ⟨hk, h⟩ | ⟨hk, h⟩ | ⟨hk, h⟩ | ⟨hk, h⟩ <;> rcases h' with ⟨gk, g⟩ | ⟨gk, g⟩ | ⟨gk, g⟩ | ⟨gk, g⟩ | ⟨gk, g⟩
  all_goals first
    | exact ofW_one h g
    | exact ofQ_one h g
    | exact ofB_one h g
    | (exfalso; omega)
    | (exfalso; unfold noKey at hk; omega)
    | (exfalso; unfold noKey at gk; omega)
    | (unfold noKey at hk gk; omega)
theorem ObjOk.same {l : List Int} {n a : Nat} {rl : Nat → List Int} {k2 o v k5 : Int} (h : ObjOk l n a rl k2 o v k5) (hv : v = o) : OpOk l rl k2 o 0 n := by
  rcases h with ⟨_, h⟩ | ⟨h, _⟩
  · exact h
  · exact absurd hv h
theorem ObjOk.none {l : List Int} {n a : Nat} {rl : Nat → List Int} {k2 o v k5 : Int} (h : ObjOk l n a rl k2 o v k5) (hv : ¬ v = o) (hi : ¬ (v = 105 ∨ v = 97)) : False := by
  rcases h with ⟨h, _⟩ | ⟨_, h, _⟩
  · exact hv h
  · exact hi h
theorem ObjOk.span {l : List Int} {n a : Nat} {rl : Nat → List Int} {k2 o v k5 : Int} {B : Bool} {x y er : Int} (h : ObjOk l n a rl k2 o v k5) (hv : ¬ v = o) (hB : (v == 97) = B) (hR : ofK l a B k5 x y er) : er = 0 ∧ ∃ f t : Nat, x = f ∧ y = t ∧ OpOk l rl k2 o f t := by
  rcases h with ⟨h, _⟩ | ⟨_, _, f, t, h1, h2⟩
  · exact absurd h hv
  · rw [hB] at h1
    obtain ⟨e1, e2, e3⟩ := ofK_one hR h1
    exact ⟨e3, f, t, e1, e2, h2⟩
theorem ObjOk.span' {l : List Int} {n a f t : Nat} {rl : Nat → List Int} {k2 o v k5 : Int} {B : Bool} (h : ObjOk l n a rl k2 o v k5) (hv : ¬ v = o) (hB : (v == 97) = B) (hR : ofK l a B k5 f t 0) : OpOk l rl k2 o f t := by
  obtain ⟨_, f', t', e1, e2, h2⟩ := h.span hv hB hR
  have h3 : f = f' := by omega
  have h4 : t = t' := by omega
  rw [h3, h4]
  exact h2
def OneOk (l : List Int) (n a : Nat) (rl : Nat → List Int) (k1 k2 o v k5 fk fa : Int) (POk : Prop) : Prop :=
  (isMv v = true → MoveOk l n a rl k1 k2 o v k5 fk fa) ∧ (isMv v = false → o = 0 → POk) ∧ (isMv v = false → o ≠ 0 → ObjOk l n a rl k2 o v k5)
theorem of_bd {l : List Int} {k : Nat} {ar : Bool} {key x y : Int} (h : ofK l k ar key x y 0) : ∃ f t : Nat, x = f ∧ y = t ∧ f ≤ t ∧ t ≤ l.length := by
  rcases h with ⟨_, h⟩ | ⟨_, h⟩ | ⟨_, h⟩ | ⟨_, h⟩ | ⟨_, _, _, h⟩
  · rcases h with ⟨h1, _, rfl, rfl⟩ | ⟨_, h, _⟩
    · obtain ⟨a1, a2, a3, a4⟩ := run_facts (big := false) h1
      obtain ⟨b1, b2, b3⟩ := woF_facts (big := false) h1
      cases ar
      · exact ⟨_, _, rfl, rfl, by simp; omega, by simpa using a3⟩
      · exact ⟨_, _, rfl, rfl, by simp; omega, by simpa using b3⟩
    · cases h
  · rcases h with ⟨h1, _, rfl, rfl⟩ | ⟨_, h, _⟩
    · obtain ⟨a1, a2, a3, a4⟩ := run_facts (big := true) h1
      obtain ⟨b1, b2, b3⟩ := woF_facts (big := true) h1
      cases ar
      · exact ⟨_, _, rfl, rfl, by simp; omega, by simpa using a3⟩
      · exact ⟨_, _, rfl, rfl, by simp; omega, by simpa using b3⟩
    · cases h
  · rcases h with ⟨f, t, ⟨h1, _, _, _, h2⟩, _, rfl, rfl⟩ | ⟨_, h, _⟩
    · cases ar
      · exact ⟨f + 1, t, by simp, by simp, by omega, by omega⟩
      · exact ⟨f, t + 1, by simp, by simp, by omega, by omega⟩
    · cases h
  · rcases h with ⟨f, t, ⟨_, h1, _, h2, _, h3, _⟩, _, rfl, rfl⟩ | ⟨_, h, _⟩
    · have hne : f < t := by
        rcases opairs_says h1 with e | ⟨m, e1, e2, e3, e4, _⟩ <;> omega
      cases ar
      · exact ⟨f + 1, t, by simp, by simp, by omega, by omega⟩
      · exact ⟨f, t + 1, by simp, by simp, by omega, by omega⟩
    · cases h
  · cases h
theorem DoneIs.from {w wx : World} {g : Nat} {Ok Ok' : Prop} {Post Post' : World → Array Value → Prop} {e : Ending} {w' : World} (h : DoneIs g wx Ok Post e w') (hg : w.grownBy wx (some g)) (hO : Ok' → Ok) (hP : ∀ cs, Post w' cs → Post' w' cs) : DoneIs g w Ok' Post' e w' := by
  obtain ⟨er, cs', h1, h2, h3, h4⟩ := h
  exact ⟨er, cs', h1, grows_trans hg h2, fun h => h3 (hO h), fun h => let ⟨a, b, c, d⟩ := h4 h; ⟨a, b, c, hP _ d⟩⟩
theorem CmdIn.setCmd {v0 w : World} {g : Nat} {cs : Array Value} {A : Option Addr} {n c a : Nat} {rs : Array Value} {rl : Nat → List Int} {k1 k2 k3 k4 k5 fk fa : Int} {l : List Int} (h : CmdIn v0 w g cs A n c a rs rl k1 k2 k3 k4 k5 fk fa l) (o v : Int) :
    CmdIn v0 (w.setRow g (seg cs 29 #[.int .i64 k1, .int .i64 k2, .int .i64 o, .int .i64 v, .int .i64 k5])) g (seg cs 29 #[.int .i64 k1, .int .i64 k2, .int .i64 o, .int .i64 v, .int .i64 k5]) A n c a rs rl k1 k2 o v k5 fk fa l := by
  obtain ⟨B, d, h1, h2⟩ := h.doer
  have hs : (#[.int .i64 k1, .int .i64 k2, .int .i64 o, .int .i64 v, .int .i64 k5] : Array Value).size = 5 := rfl
  have hz : 29 + (#[.int .i64 k1, .int .i64 k2, .int .i64 o, .int .i64 v, .int .i64 k5] : Array Value).size ≤ cs.size := by rw [h1.size, hs]; omega
  have lo : ∀ k, k < 29 → (seg cs 29 #[.int .i64 k1, .int .i64 k2, .int .i64 o, .int .i64 v, .int .i64 k5])[k]? = cs[k]? := fun k hk => by rw [seg_get hz, if_pos hk]
  have hi : ∀ k, 34 ≤ k → (seg cs 29 #[.int .i64 k1, .int .i64 k2, .int .i64 o, .int .i64 v, .int .i64 k5])[k]? = cs[k]? := fun k hk => by rw [seg_get hz, if_neg (by omega), if_neg (by rw [hs]; omega)]
  have mid : ∀ k, 29 ≤ k → k < 34 → (seg cs 29 #[.int .i64 k1, .int .i64 k2, .int .i64 o, .int .i64 v, .int .i64 k5])[k]? = (#[.int .i64 k1, .int .i64 k2, .int .i64 o, .int .i64 v, .int .i64 k5] : Array Value)[k - 29]? := fun k h1 h2 => by rw [seg_get hz, if_neg (by omega), if_pos (by rw [hs]; omega)]
  have hg := setRow_grown w g (seg cs 29 #[.int .i64 k1, .int .i64 k2, .int .i64 o, .int .i64 v, .int .i64 k5])
  exact { h with
    blk := Blk.setRow h.blk _
    doer := ⟨B, d, {
      size := by rw [seg_size hz]; exact h1.size
      text := by rw [lo 0 (by omega)]; exact h1.text
      at_ := by rw [lo 1 (by omega)]; exact h1.at_
      regs := fun j hj => by rw [lo _ (by omega)]; exact h1.regs j hj
      c29 := by rw [mid 29 (by omega) (by omega)]; rfl
      c30 := by rw [mid 30 (by omega) (by omega)]; rfl
      c31 := by rw [mid 31 (by omega) (by omega)]; rfl
      c32 := by rw [mid 32 (by omega) (by omega)]; rfl
      c33 := by rw [mid 33 (by omega) (by omega)]; rfl
      out := by rw [hi 34 (by omega)]; exact h1.out
      oat := by rw [hi 35 (by omega)]; exact h1.oat
      oregs := fun j hj => let ⟨u, h3, h4⟩ := h1.oregs j hj; ⟨u, by rw [hi _ (by omega)]; exact h3, h4.grown hg (Nat.lt_succ_self g)⟩
      far := fun j hj u hu => h1.far j hj u (by rw [hi _ (by omega)] at hu; exact hu)
      c63 := by rw [hi 63 (by omega)]; exact h1.c63
      c64 := by rw [hi 64 (by omega)]; exact h1.c64
      c65 := by rw [hi 65 (by omega)]; exact h1.c65
      c66 := by rw [hi 66 (by omega)]; exact h1.c66 }, OwnI.grown h2 hg (Nat.lt_succ_self g)⟩
    ext := h.ext.turned hg h.base }
theorem one5 (k1 k2 o v k5 : Int) : (#[.int .i64 k1, .int .i64 k2, .int .i64 o, .int .i64 v, .int .i64 k5] : Array Value).all (·.oneCell') = true := by simp [Value.oneCell']
theorem cmd_info : (Try.prog.info? 28).map (·.size) = some 5 := by kernel_rfl

set_option maxRecDepth 20000 in
set_option maxHeartbeats 8000000 in
theorem one_walk {v0 w : World} {g n c a : Nat} {cs rs : Array Value} {A : Option Addr} {l : List Int} {rl : Nat → List Int} {k1 k2 k3 k4 k5 fk fa : Int} {POk : Prop} {PPost : World → Array Value → Prop} (h : CmdIn v0 w g cs A n c a rs rl k1 k2 k3 k4 k5 fk fa l) (hk3 : k3 = 0 ∨ k3 = 100 ∨ k3 = 99 ∨ k3 = 121)
    (HP : isMv k4 = false → (effF k3 k4) = (0, k4) → ∀ wx, Ext w wx → Calls Try.prog 30 #[.pointer (some ⟨g, 0, none⟩)] wx (DoneIs g wx POk PPost)) :
    Calls Try.prog 22 #[.pointer (some ⟨g, 0, none⟩)] w (DoneIs g w (OneOk l n a rl k1 k2 (effF k3 k4).1 (effF k3 k4).2 k5 fk fa POk) (OnePost g l n a rl k1 k2 (effF k3 k4).1 (effF k3 k4).2 k5 fk fa PPost)) := by
  have hop := effF_op (v := k4) hk3
  obtain ⟨o, ho⟩ : ∃ o, (effF k3 k4).1 = o := ⟨_, rfl⟩
  obtain ⟨v, hv⟩ : ∃ v, (effF k3 k4).2 = v := ⟨_, rfl⟩
  have hov : effF k3 k4 = (o, v) := by rw [← ho, ← hv]
  rw [ho, hv]
  rw [ho] at hop
  have HPl : Hid (isMv k4 = false → (o, v) = (0, k4) → ∀ wx, Ext w wx → Calls Try.prog 30 #[.pointer (some ⟨g, 0, none⟩)] wx (DoneIs g wx POk PPost)) := Lib.hid (by rw [hov] at HP; exact HP)
  obtain ⟨h0, h1, hrs, h29, h30, h31, h32, h33⟩ := h.cells
  have HI := Lib.hid h
  have HOV := Lib.hid hov
  have HOP := Lib.hid hop
  have hb := h.blk
  have x29 : w.cell? ⟨g, 29, none⟩ = some (.int .i64 k1) := (hb.cell 29).trans h29
  have x30 : w.cell? ⟨g, 30, none⟩ = some (.int .i64 k2) := (hb.cell 30).trans h30
  have x31 : w.cell? ⟨g, 31, none⟩ = some (.int .i64 k3) := (hb.cell 31).trans h31
  have x32 : w.cell? ⟨g, 32, none⟩ = some (.int .i64 k4) := (hb.cell 32).trans h32
  have x33 : w.cell? ⟨g, 33, none⟩ = some (.int .i64 k5) := (hb.cell 33).trans h33
  have hgz : Hid (cs.size = 67) := Lib.hid h.mid.out.size
  clear h h0 h1 hrs h29 h30 h31 h32 h33 hb ho hv hov hop HP hk3
  go_enter Try.func22, Try.ntmps22
  go_upto_if 13 with fail
  go_cut [] (fun wx => ∃ cs', Hid (CmdIn v0 wx g cs' A n c a rs rl k1 k2 o v k5 fk fa l) ∧ Hid (w.grownBy wx (some g)) ∧ Hid (o = 0 → Ext w wx ∧ v = k4))
  case first =>
    by_cases hk : k3 = 0
    case neg =>
      have hkb : (k3 == 0) = false := by simp [hk]
      have HE : Hid (o = k3 ∧ v = k4) := Lib.hid (by
        have := HOV.out
        unfold effF at this
        rw [if_neg hk] at this
        injection this with h1 h2
        exact ⟨h1.symm, h2.symm⟩)
      go_wp2_with fail
      go_meet
      exact ⟨cs, Lib.hid (by rw [HE.out.1, HE.out.2]; exact HI.out), Lib.hid ⟨rfl, rfl, rfl, Nat.le_refl _, fun _ _ _ => rfl⟩, Lib.hid fun _ => ⟨Ext.refl _, HE.out.2⟩⟩
    subst hk
    have HSh := Lib.hid (short_all (k1 := k1) (k2 := k2) (k4 := k4) (k5 := k5) w)
    go_wp2_with fail
    refine HSh.out.mono ?_
    rintro e w1 ⟨⟨o', v', b, rfl, hs⟩, hx1⟩
    have HS := Lib.hid hs
    have hx2 := Lib.hid (hx1.trans (Ext.alloc w1 (.cells #[.int .i64 k1, .int .i64 k2, .int .i64 o', .int .i64 v', .int .i64 k5] 28)))
    have hb2 := Lib.hid (Blk.new w1 28 #[.int .i64 k1, .int .i64 k2, .int .i64 o', .int .i64 v', .int .i64 k5])
    clear x29 x30 x31 x32 x33 HSh hx1 hs
    go_upto_region 3 with fail
    change Code.wp _ _ _ _ (w1.alloc (.cells #[.int .i64 k1, .int .i64 k2, .int .i64 o', .int .i64 v', .int .i64 k5] 28))
    generalize w1.alloc (.cells #[.int .i64 k1, .int .i64 k2, .int .i64 o', .int .i64 v', .int .i64 k5] 28) = w2 at *
    generalize w1.heap.size = p at *
    have HE : Hid (o = o' ∧ v = v' ∧ (b = false → o' = 0 ∧ v' = k4)) := Lib.hid (by
      have := HOV.out
      unfold effF at this
      rw [if_pos rfl] at this
      rcases HS.out with ⟨rfl, h1⟩ | ⟨rfl, h1, rfl, rfl⟩
      · rw [h1] at this
        injection this with h2 h3
        exact ⟨h2.symm, h3.symm, fun h => by cases h⟩
      · rw [h1] at this
        injection this with h2 h3
        exact ⟨h2.symm, h3.symm, fun _ => ⟨rfl, rfl⟩⟩)
    have HE0 : Hid (b = true → o' ≠ 0) := Lib.hid (by
      rintro rfl h
      rcases HS.out with ⟨_, h1⟩ | ⟨h1, _⟩
      · have := shortF_op h1
        simp at this
        omega
      · cases h1)
    have HB0 : Hid (b = false → o = 0 ∧ v = k4) := Lib.hid (fun h => by
      obtain ⟨h1, h2, h3⟩ := HE.out
      obtain ⟨h4, h5⟩ := h3 h
      exact ⟨h1.trans h4, h2.trans h5⟩)
    obtain ⟨e1, e2⟩ : o' = o ∧ v' = v := ⟨HE.out.1.symm, HE.out.2.1.symm⟩
    subst e1
    subst e2
    have HI2 := Lib.hid (HI.out.wext hx2.out)
    clear HE HS
    cases b
    · have HB1 := Lib.hid (HB0.out rfl)
      have HI3 : Hid (CmdIn v0 w2 g cs A n c a rs rl k1 k2 o' v' k5 fk fa l) := Lib.hid (by rw [HB1.out.1, HB1.out.2]; exact HI2.out)
      clear HB0 HE0
      go_wp2_with fail
      go_meet
      exact ⟨cs, HI3, Lib.hid (ext_grows hx2.out _), Lib.hid fun _ => ⟨hx2.out, HB1.out.2⟩⟩
    · have HE1 := Lib.hid (HE0.out rfl)
      have HI3 := Lib.hid (HI2.out.setCmd o' v')
      clear HB0 HE0
      go_wp2_with (first
        | (refine wpList_load_row rfl 28 (.tmp 3) rfl p rfl 28 #[.int .i64 k1, .int .i64 k2, .int .i64 o', .int .i64 v', .int .i64 k5] (0, 0) _ hb2.out Try.underlying28 rfl cmd_info ?_)
        | (refine wpList_store_at rfl 28 (.tmp 26) (.tmp 24) rfl g 29 #[.int .i64 k1, .int .i64 k2, .int .i64 o', .int .i64 v', .int .i64 k5] rfl rfl 57 cs HI2.out.blk cmd_info (by rw [hgz.out]; exact (by decide : 34 ≤ 67)) (one5 _ _ _ _ _) ?_))
      go_meet
      exact ⟨_, HI3, Lib.hid (grows_trans (ext_grows hx2.out _) (setRow_grown _ _ _)), Lib.hid fun h => absurd h HE1.out⟩
  case rest =>
    obtain ⟨cs', HI', HG', HE'⟩ := hcut
    clear HI hgz x29 x30 x31 x32 x33
    have h := HI'.out
    obtain ⟨h0, h1, hrs, h29, h30, h31, h32, h33⟩ := h.cells
    have hb := h.blk
    have c32 : wc.cell? ⟨g, 32, none⟩ = some (.int .i64 v) := (hb.cell 32).trans h32
    have HC : Hid (cs'[0]? = some (.slice A n c) ∧ cs'[1]? = some (.int .i64 (a : Int)) ∧ cs'[31]? = some (.int .i64 o) ∧ cs'[32]? = some (.int .i64 v) ∧ cs'[33]? = some (.int .i64 k5)) := Lib.hid ⟨h0, h1, h31, h32, h33⟩
    clear h h0 h1 hrs h29 h30 h31 h32 h33 hb
    go_upto_if 32 with fail
    go_cut [32] (fun u wx => u = .bool (isMv v) ∧ wx = wc)
    case first =>
      clear c32
      go_wp2_with fail
      all_goals
        go_meet
        refine ⟨?_, rfl⟩
        unfold isMv
        clear HPl HOV HOP HI' HG' HE' HC
        simp only [*, Bool.true_or, Bool.or_true, Bool.false_or, Bool.or_false]
    case rest =>
      obtain ⟨rfl, hw⟩ := hcut
      subst hw
      by_cases hm : isMv v = true
      · have HMv := Lib.hid (move_ok HI'.out HOP.out)
        have HM := Lib.hid hm
        rw [hm]
        clear hm
        go_wp2_with fail
        refine HMv.out.mono ?_
        rintro e w3 hd
        have HF : Hid (DoneIs g w (OneOk l n a rl k1 k2 o v k5 fk fa POk) (OnePost g l n a rl k1 k2 o v k5 fk fa PPost) e w3) := Lib.hid (hd.from HG'.out (fun h => h.1 HM.out) (fun cs h => .inl ⟨HM.out, h⟩))
        obtain ⟨er, cs3, rfl, _⟩ := hd
        clear HMv
        go_wp2_with fail
        go_ret
        exact HF.out
      have hmf : isMv v = false := by simpa using hm
      have HM := Lib.hid hmf
      rw [hmf]
      clear hm hmf
      by_cases ho : o = 0
      · subst ho
        have hE := HE'.out rfl
        have HPc := Lib.hid (HPl.out (by rw [← hE.2]; exact HM.out) (by rw [hE.2]) _ hE.1)
        clear hE
        have c31 := HI'.out.mid.cell (k := 31) (by omega) HC.out.2.2.1
        go_wp2_with fail
        refine HPc.out.mono ?_
        rintro e w3 hd
        have HF : Hid (DoneIs g w (OneOk l n a rl k1 k2 0 v k5 fk fa POk) (OnePost g l n a rl k1 k2 0 v k5 fk fa PPost) e w3) := Lib.hid (hd.from HG'.out (fun h => h.2.1 HM.out rfl) (fun cs h => .inr (.inl ⟨HM.out, rfl, h⟩)))
        obtain ⟨er, cs3, rfl, _⟩ := hd
        clear HPc
        go_wp2_with fail
        go_ret
        exact HF.out
      have hob : (o == 0) = false := by simp [ho]
      have HO := Lib.hid ho
      have HO3 : Hid (o = 100 ∨ o = 99 ∨ o = 121) := Lib.hid (HOP.out.resolve_left ho)
      clear ho
      have c31 := HI'.out.mid.cell (k := 31) (by omega) HC.out.2.2.1
      go_upto_region 28 with fail
      go_quiet (fail)
      have HXq := Lib.hid (Ext.drewN wc nq)
      have HIq := Lib.hid (HI'.out.wext HXq.out)
      have HGq := Lib.hid (grows_trans HG'.out (ext_grows HXq.out (some g)))
      clear c31 c32
      generalize wc.drewN nq = wd at *
      have c0 := HIq.out.mid.cell (k := 0) (by omega) HC.out.1
      have c1 := HIq.out.mid.cell (k := 1) (by omega) HC.out.2.1
      have c31 := HIq.out.mid.cell (k := 31) (by omega) HC.out.2.2.1
      have c32 := HIq.out.mid.cell (k := 32) (by omega) HC.out.2.2.2.1
      have c33 := HIq.out.mid.cell (k := 33) (by omega) HC.out.2.2.2.2
      by_cases hvo : v = o
      · have hvb : (v == o) = true := by simp [hvo]
        have HV := Lib.hid hvo
        have HOp : Hid (Calls Try.prog 31 #[.pointer (some ⟨g, 0, none⟩), .int .i64 0, .int .i64 (n : Int), .bool true] wd (DoneIs g wd (OpOk l rl k2 o 0 n) (OpPost g l a rl k2 o fk fa 0 n true))) := Lib.hid (operate_ok (f := 0) (t := n) HIq.out (Nat.zero_le _) (Nat.le_refl _) HO3.out)
        clear hvo
        go_wp2_with fail
        refine HOp.out.mono ?_
        rintro e w3 hd
        have HF : Hid (DoneIs g w (OneOk l n a rl k1 k2 o v k5 fk fa POk) (OnePost g l n a rl k1 k2 o v k5 fk fa PPost) e w3) := Lib.hid (hd.from HGq.out (fun h => (h.2.2 HM.out HO.out).same HV.out) (fun cs h => by
          obtain ⟨m, at_, md, rl', e', h1, h2⟩ := h
          exact .inr (.inr ⟨HM.out, HO.out, 0, n, true, m, at_, md, rl', e', Nat.zero_le _, Nat.le_refl _, .inl ⟨HV.out, rfl, rfl, rfl⟩, h1, h2⟩)))
        obtain ⟨er, cs3, rfl, _⟩ := hd
        clear HOp c0 c1 c31 c32 c33
        go_wp2_with fail
        go_ret
        exact HF.out
      have hvb : (v == o) = false := by simp [hvo]
      have HV := Lib.hid hvo
      clear hvo
      by_cases hia : v = 105 ∨ v = 97
      case neg =>
        have h1 : (v != 105) = true := by simp; omega
        have h2 : (v != 97) = true := by simp; omega
        have HF : Hid (DoneIs g w (OneOk l n a rl k1 k2 o v k5 fk fa POk) (OnePost g l n a rl k1 k2 o v k5 fk fa PPost) (.returned (.int .i64 9)) wd) := Lib.hid ⟨9, cs', rfl, HGq.out, fun h => ((h.2.2 HM.out HO.out).none HV.out hia).elim, fun h => by cases h⟩
        clear hia
        go_wp2_with fail
        go_ret
        exact HF.out
      case pos =>
        have HIA := Lib.hid hia
        have hln := Lib.hid HIq.out.line.len
        rcases hia with hv | hv
        · subst hv
          have HOf : Hid (∀ wy, Ext wd wy → Calls Try.prog 32 #[.slice A n c, .int .i64 (a : Int), .bool false, .int .i64 k5] wy fun e w' => (∃ x y er, ofK l a false k5 x y er ∧ e = .returned (.tuple #[.int .i64 x, .int .i64 y, .int .i64 er])) ∧ Ext wy w') := Lib.hid fun wy he =>
            objOf_any (HIq.out.line.ext (HIq.out.ext.trans he)) HIq.out.nums (by have := HIq.out.len; omega) (by have := HIq.out.place; omega)
          clear HIA
          go_upto_region 32 with fail
          refine wp_region_held_drew (S := fun w' => w'.cell? ⟨g, 0, none⟩ = some (.slice A n c) ∧ w'.cell? ⟨g, 1, none⟩ = some (.int .i64 (a : Int)) ∧ w'.cell? ⟨g, 32, none⟩ = some (.int .i64 105) ∧ w'.cell? ⟨g, 33, none⟩ = some (.int .i64 k5)) (by kernel_rfl) ⟨c0, c1, c32, c33⟩ (fun hHeld => ?_)
          refine wpAnyH_take (i := 0) (v := (.pointer (some ⟨g, 0, none⟩))) rfl (by kernel_rfl) (by kernel_rfl) (by kernel_rfl) (fun _ _ _ h => h) (Or.inl ⟨by rfl, by (intro w hSw; obtain ⟨s0, s1, s2, s3⟩ := hSw; go_simp)⟩) hHeld ?_
          try simp only [List.getElem_toArray, List.getElem_cons_zero, List.getElem_cons_succ, Act.put, List.setIfInBounds_toArray, List.set_cons_zero, List.set_cons_succ]
          refine wpAnyH_take (i := 1) (v := (.pointer (some ⟨g, 0, none⟩))) rfl (by kernel_rfl) (by kernel_rfl) (by kernel_rfl) (fun _ _ _ h => h) (Or.inl ⟨by rfl, by (intro w hSw; obtain ⟨s0, s1, s2, s3⟩ := hSw; go_simp)⟩) hHeld ?_
          try simp only [List.getElem_toArray, List.getElem_cons_zero, List.getElem_cons_succ, Act.put, List.setIfInBounds_toArray, List.set_cons_zero, List.set_cons_succ]
          refine wpAnyH_take (i := 2) (v := (.pointer (some ⟨g, 0, none⟩))) rfl (by kernel_rfl) (by kernel_rfl) (by kernel_rfl) (fun _ _ _ h => h) (Or.inl ⟨by rfl, by (intro w hSw; obtain ⟨s0, s1, s2, s3⟩ := hSw; go_simp)⟩) hHeld ?_
          try simp only [List.getElem_toArray, List.getElem_cons_zero, List.getElem_cons_succ, Act.put, List.setIfInBounds_toArray, List.set_cons_zero, List.set_cons_succ]
          refine wpAnyH_take (i := 3) (v := (.pointer (some ⟨g, 0, none⟩))) rfl (by kernel_rfl) (by kernel_rfl) (by kernel_rfl) (fun _ _ _ h => h) (Or.inl ⟨by rfl, by (intro w hSw; obtain ⟨s0, s1, s2, s3⟩ := hSw; go_simp)⟩) hHeld ?_
          try simp only [List.getElem_toArray, List.getElem_cons_zero, List.getElem_cons_succ, Act.put, List.setIfInBounds_toArray, List.set_cons_zero, List.set_cons_succ]
          refine wpAnyH_take (i := 4) (v := (.slice A n c)) rfl (by kernel_rfl) (by kernel_rfl) (by kernel_rfl) (fun _ _ _ h => h) (Or.inl ⟨by rfl, by (intro w hSw; obtain ⟨s0, s1, s2, s3⟩ := hSw; go_simp)⟩) hHeld ?_
          try simp only [List.getElem_toArray, List.getElem_cons_zero, List.getElem_cons_succ, Act.put, List.setIfInBounds_toArray, List.set_cons_zero, List.set_cons_succ]
          refine wpAnyH_take (i := 5) (v := (.pointer (some ⟨g, 0, none⟩))) rfl (by kernel_rfl) (by kernel_rfl) (by kernel_rfl) (fun _ _ _ h => h) (Or.inl ⟨by rfl, by (intro w hSw; obtain ⟨s0, s1, s2, s3⟩ := hSw; go_simp)⟩) hHeld ?_
          try simp only [List.getElem_toArray, List.getElem_cons_zero, List.getElem_cons_succ, Act.put, List.setIfInBounds_toArray, List.set_cons_zero, List.set_cons_succ]
          refine wpAnyH_take (i := 6) (v := (.pointer (some ⟨g, 0, none⟩))) rfl (by kernel_rfl) (by kernel_rfl) (by kernel_rfl) (fun _ _ _ h => h) (Or.inl ⟨by rfl, by (intro w hSw; obtain ⟨s0, s1, s2, s3⟩ := hSw; go_simp)⟩) hHeld ?_
          try simp only [List.getElem_toArray, List.getElem_cons_zero, List.getElem_cons_succ, Act.put, List.setIfInBounds_toArray, List.set_cons_zero, List.set_cons_succ]
          refine wpAnyH_take (i := 7) (v := (.pointer (some ⟨g, 0, none⟩))) rfl (by kernel_rfl) (by kernel_rfl) (by kernel_rfl) (fun _ _ _ h => h) (Or.inl ⟨by rfl, by (intro w hSw; obtain ⟨s0, s1, s2, s3⟩ := hSw; go_simp)⟩) hHeld ?_
          try simp only [List.getElem_toArray, List.getElem_cons_zero, List.getElem_cons_succ, Act.put, List.setIfInBounds_toArray, List.set_cons_zero, List.set_cons_succ]
          refine wpAnyH_take (i := 8) (v := (.pointer (some ⟨g, 1, none⟩))) rfl (by kernel_rfl) (by kernel_rfl) (by kernel_rfl) (fun _ _ _ h => h) (Or.inl ⟨by rfl, by (intro w hSw; obtain ⟨s0, s1, s2, s3⟩ := hSw; go_simp)⟩) hHeld ?_
          try simp only [List.getElem_toArray, List.getElem_cons_zero, List.getElem_cons_succ, Act.put, List.setIfInBounds_toArray, List.set_cons_zero, List.set_cons_succ]
          refine wpAnyH_take (i := 9) (v := (.int .i64 (a : Int))) rfl (by kernel_rfl) (by kernel_rfl) (by kernel_rfl) (fun _ _ _ h => h) (Or.inl ⟨by rfl, by (intro w hSw; obtain ⟨s0, s1, s2, s3⟩ := hSw; go_simp)⟩) hHeld ?_
          try simp only [List.getElem_toArray, List.getElem_cons_zero, List.getElem_cons_succ, Act.put, List.setIfInBounds_toArray, List.set_cons_zero, List.set_cons_succ]
          refine wpAnyH_take (i := 10) (v := (.pointer (some ⟨g, 0, none⟩))) rfl (by kernel_rfl) (by kernel_rfl) (by kernel_rfl) (fun _ _ _ h => h) (Or.inl ⟨by rfl, by (intro w hSw; obtain ⟨s0, s1, s2, s3⟩ := hSw; go_simp)⟩) hHeld ?_
          try simp only [List.getElem_toArray, List.getElem_cons_zero, List.getElem_cons_succ, Act.put, List.setIfInBounds_toArray, List.set_cons_zero, List.set_cons_succ]
          refine wpAnyH_take (i := 11) (v := (.pointer (some ⟨g, 0, none⟩))) rfl (by kernel_rfl) (by kernel_rfl) (by kernel_rfl) (fun _ _ _ h => h) (Or.inl ⟨by rfl, by (intro w hSw; obtain ⟨s0, s1, s2, s3⟩ := hSw; go_simp)⟩) hHeld ?_
          try simp only [List.getElem_toArray, List.getElem_cons_zero, List.getElem_cons_succ, Act.put, List.setIfInBounds_toArray, List.set_cons_zero, List.set_cons_succ]
          refine wpAnyH_take (i := 12) (v := (.pointer (some ⟨g, 29, none⟩))) rfl (by kernel_rfl) (by kernel_rfl) (by kernel_rfl) (fun _ _ _ h => h) (Or.inl ⟨by rfl, by (intro w hSw; obtain ⟨s0, s1, s2, s3⟩ := hSw; go_simp)⟩) hHeld ?_
          try simp only [List.getElem_toArray, List.getElem_cons_zero, List.getElem_cons_succ, Act.put, List.setIfInBounds_toArray, List.set_cons_zero, List.set_cons_succ]
          refine wpAnyH_take (i := 13) (v := (.pointer (some ⟨g, 32, none⟩))) rfl (by kernel_rfl) (by kernel_rfl) (by kernel_rfl) (fun _ _ _ h => h) (Or.inl ⟨by rfl, by (intro w hSw; obtain ⟨s0, s1, s2, s3⟩ := hSw; go_simp)⟩) hHeld ?_
          try simp only [List.getElem_toArray, List.getElem_cons_zero, List.getElem_cons_succ, Act.put, List.setIfInBounds_toArray, List.set_cons_zero, List.set_cons_succ]
          refine wpAnyH_take (i := 14) (v := (.int .i64 105)) rfl (by kernel_rfl) (by kernel_rfl) (by kernel_rfl) (fun _ _ _ h => h) (Or.inl ⟨by rfl, by (intro w hSw; obtain ⟨s0, s1, s2, s3⟩ := hSw; go_simp)⟩) hHeld ?_
          try simp only [List.getElem_toArray, List.getElem_cons_zero, List.getElem_cons_succ, Act.put, List.setIfInBounds_toArray, List.set_cons_zero, List.set_cons_succ]
          refine wpAnyH_take (i := 15) (v := (.bool false)) rfl (by kernel_rfl) (by kernel_rfl) (by kernel_rfl) (fun _ _ _ h => h) (Or.inl ⟨by rfl, by (intro w hSw; obtain ⟨s0, s1, s2, s3⟩ := hSw; go_simp)⟩) hHeld ?_
          try simp only [List.getElem_toArray, List.getElem_cons_zero, List.getElem_cons_succ, Act.put, List.setIfInBounds_toArray, List.set_cons_zero, List.set_cons_succ]
          refine wpAnyH_take (i := 16) (v := (.pointer (some ⟨g, 0, none⟩))) rfl (by kernel_rfl) (by kernel_rfl) (by kernel_rfl) (fun _ _ _ h => h) (Or.inl ⟨by rfl, by (intro w hSw; obtain ⟨s0, s1, s2, s3⟩ := hSw; go_simp)⟩) hHeld ?_
          try simp only [List.getElem_toArray, List.getElem_cons_zero, List.getElem_cons_succ, Act.put, List.setIfInBounds_toArray, List.set_cons_zero, List.set_cons_succ]
          refine wpAnyH_take (i := 17) (v := (.pointer (some ⟨g, 0, none⟩))) rfl (by kernel_rfl) (by kernel_rfl) (by kernel_rfl) (fun _ _ _ h => h) (Or.inl ⟨by rfl, by (intro w hSw; obtain ⟨s0, s1, s2, s3⟩ := hSw; go_simp)⟩) hHeld ?_
          try simp only [List.getElem_toArray, List.getElem_cons_zero, List.getElem_cons_succ, Act.put, List.setIfInBounds_toArray, List.set_cons_zero, List.set_cons_succ]
          refine wpAnyH_take (i := 18) (v := (.pointer (some ⟨g, 29, none⟩))) rfl (by kernel_rfl) (by kernel_rfl) (by kernel_rfl) (fun _ _ _ h => h) (Or.inl ⟨by rfl, by (intro w hSw; obtain ⟨s0, s1, s2, s3⟩ := hSw; go_simp)⟩) hHeld ?_
          try simp only [List.getElem_toArray, List.getElem_cons_zero, List.getElem_cons_succ, Act.put, List.setIfInBounds_toArray, List.set_cons_zero, List.set_cons_succ]
          refine wpAnyH_take (i := 19) (v := (.pointer (some ⟨g, 33, none⟩))) rfl (by kernel_rfl) (by kernel_rfl) (by kernel_rfl) (fun _ _ _ h => h) (Or.inl ⟨by rfl, by (intro w hSw; obtain ⟨s0, s1, s2, s3⟩ := hSw; go_simp)⟩) hHeld ?_
          try simp only [List.getElem_toArray, List.getElem_cons_zero, List.getElem_cons_succ, Act.put, List.setIfInBounds_toArray, List.set_cons_zero, List.set_cons_succ]
          refine wpAnyH_take (i := 20) (v := (.int .i64 k5)) rfl (by kernel_rfl) (by kernel_rfl) (by kernel_rfl) (fun _ _ _ h => h) (Or.inl ⟨by rfl, by (intro w hSw; obtain ⟨s0, s1, s2, s3⟩ := hSw; go_simp)⟩) hHeld ?_
          try simp only [List.getElem_toArray, List.getElem_cons_zero, List.getElem_cons_succ, Act.put, List.setIfInBounds_toArray, List.set_cons_zero, List.set_cons_succ]
          refine wpAnyH_ready (rs := [21]) (by kernel_rfl) (by simp) ?_
          refine AllReadyH.cons rfl (fun K hK => ?_) AllReadyH.nil
          refine step_callf rfl 32 #[.slice A n c, .int .i64 (a : Int), .bool false, .int .i64 k5] rfl (by kernel_rfl) (fun u w' => ∃ x y er : Int, u = .tuple #[.int .i64 x, .int .i64 y, .int .i64 er] ∧ ofK l a false k5 x y er ∧ Ext wd.drew w') ((HOf.out _ (Ext.drew wd)).mono fun e w' ⟨⟨x, y, er, h1, h2⟩, h3⟩ => ⟨_, h2, x, y, er, rfl, h1, h3⟩) ?_
          rintro u W1 ⟨x, y, er, rfl, hR, hxc⟩
          refine hK.out _ _ ⟨hxc.cell c0, hxc.cell c1, hxc.cell c32, hxc.cell c33⟩ (fun hHeld2 => ?_)
          clear hK K hHeld
          try simp only [List.getElem_toArray, List.getElem_cons_zero, List.getElem_cons_succ, Act.put, List.setIfInBounds_toArray, List.set_cons_zero, List.set_cons_succ]
          refine wpAnyH_take (i := 22) (v := (.tuple #[.int .i64 x, .int .i64 y, .int .i64 er])) rfl (by kernel_rfl) (by kernel_rfl) (by kernel_rfl) (fun _ _ _ h => h) (Or.inl ⟨by rfl, by (intro w hSw; obtain ⟨s0, s1, s2, s3⟩ := hSw; go_simp)⟩) hHeld2 ?_
          try simp only [List.getElem_toArray, List.getElem_cons_zero, List.getElem_cons_succ, Act.put, List.setIfInBounds_toArray, List.set_cons_zero, List.set_cons_succ]
          refine wpAnyH_take (i := 23) (v := (.int .i64 x)) rfl (by kernel_rfl) (by kernel_rfl) (by kernel_rfl) (fun _ _ _ h => h) (Or.inl ⟨by rfl, by (intro w hSw; obtain ⟨s0, s1, s2, s3⟩ := hSw; go_simp)⟩) hHeld2 ?_
          try simp only [List.getElem_toArray, List.getElem_cons_zero, List.getElem_cons_succ, Act.put, List.setIfInBounds_toArray, List.set_cons_zero, List.set_cons_succ]
          refine wpAnyH_take (i := 24) (v := (.int .i64 y)) rfl (by kernel_rfl) (by kernel_rfl) (by kernel_rfl) (fun _ _ _ h => h) (Or.inl ⟨by rfl, by (intro w hSw; obtain ⟨s0, s1, s2, s3⟩ := hSw; go_simp)⟩) hHeld2 ?_
          try simp only [List.getElem_toArray, List.getElem_cons_zero, List.getElem_cons_succ, Act.put, List.setIfInBounds_toArray, List.set_cons_zero, List.set_cons_succ]
          refine wpAnyH_take (i := 25) (v := (.int .i64 er)) rfl (by kernel_rfl) (by kernel_rfl) (by kernel_rfl) (fun _ _ _ h => h) (Or.inl ⟨by rfl, by (intro w hSw; obtain ⟨s0, s1, s2, s3⟩ := hSw; go_simp)⟩) hHeld2 ?_
          try simp only [List.getElem_toArray, List.getElem_cons_zero, List.getElem_cons_succ, Act.put, List.setIfInBounds_toArray, List.set_cons_zero, List.set_cons_succ]
          refine wpAnyH_take (i := 26) (v := (.int .i64 x)) rfl (by kernel_rfl) (by kernel_rfl) (by kernel_rfl) (fun _ _ _ h => h) (Or.inl ⟨by rfl, by (intro w hSw; obtain ⟨s0, s1, s2, s3⟩ := hSw; go_simp)⟩) hHeld2 ?_
          try simp only [List.getElem_toArray, List.getElem_cons_zero, List.getElem_cons_succ, Act.put, List.setIfInBounds_toArray, List.set_cons_zero, List.set_cons_succ]
          refine wpAnyH_take (i := 27) (v := (.int .i64 y)) rfl (by kernel_rfl) (by kernel_rfl) (by kernel_rfl) (fun _ _ _ h => h) (Or.inl ⟨by rfl, by (intro w hSw; obtain ⟨s0, s1, s2, s3⟩ := hSw; go_simp)⟩) hHeld2 ?_
          try simp only [List.getElem_toArray, List.getElem_cons_zero, List.getElem_cons_succ, Act.put, List.setIfInBounds_toArray, List.set_cons_zero, List.set_cons_succ]
          refine wpAnyH_take (i := 28) (v := (.int .i64 er)) rfl (by kernel_rfl) (by kernel_rfl) (by kernel_rfl) (fun _ _ _ h => h) (Or.inl ⟨by rfl, by (intro w hSw; obtain ⟨s0, s1, s2, s3⟩ := hSw; go_simp)⟩) hHeld2 ?_
          try simp only [List.getElem_toArray, List.getElem_cons_zero, List.getElem_cons_succ, Act.put, List.setIfInBounds_toArray, List.set_cons_zero, List.set_cons_succ]
          refine wpAnyH_done (by kernel_rfl) ?_ _
          have HI1 := Lib.hid ((HIq.out.wext (Ext.drew wd)).wext hxc)
          have HG1 := Lib.hid (grows_trans HGq.out (ext_grows ((Ext.drew wd).trans hxc) (some g)))
          clear c0 c1 c31 c32 c33 hHeld2 HOf hxc HIq HGq HI' HG' hvb
          by_cases her : er = 0
          case neg =>
            have HF : Hid (DoneIs g w (OneOk l n a rl k1 k2 o 105 k5 fk fa POk) (OnePost g l n a rl k1 k2 o 105 k5 fk fa PPost) (.returned (.int .i64 er)) W1) := Lib.hid ⟨er, cs', rfl, HG1.out, fun h => absurd ((h.2.2 HM.out HO.out).span HV.out rfl hR).1 her, fun h => absurd h her⟩
            clear hR
            go_wp2_with fail
            go_ret
            exact HF.out
          subst her
          obtain ⟨f, t, rfl, rfl, hft, htn⟩ := of_bd hR
          rw [hln.out] at htn
          have HR := Lib.hid hR
          have HFT := Lib.hid (And.intro hft htn)
          have HOp := Lib.hid (operate_ok (f := f) (t := t) (whole := false) HI1.out hft htn HO3.out)
          clear hR hft htn
          go_wp2_with fail
          refine HOp.out.mono ?_
          rintro e w3 hd
          have HF : Hid (DoneIs g w (OneOk l n a rl k1 k2 o 105 k5 fk fa POk) (OnePost g l n a rl k1 k2 o 105 k5 fk fa PPost) e w3) := Lib.hid (hd.from HG1.out (fun h => (h.2.2 HM.out HO.out).span' HV.out rfl HR.out) (fun cs h => by
            obtain ⟨m, at_, md, rl', e', h1, h2⟩ := h
            exact .inr (.inr ⟨HM.out, HO.out, f, t, false, m, at_, md, rl', e', HFT.out.1, HFT.out.2, .inr ⟨HV.out, .inl rfl, rfl, HR.out⟩, h1, h2⟩)))
          obtain ⟨er2, cs3, rfl, _⟩ := hd
          clear HOp
          go_wp2_with fail
          go_ret
          exact HF.out
        · subst hv
          have HOf : Hid (∀ wy, Ext wd wy → Calls Try.prog 32 #[.slice A n c, .int .i64 (a : Int), .bool true, .int .i64 k5] wy fun e w' => (∃ x y er, ofK l a true k5 x y er ∧ e = .returned (.tuple #[.int .i64 x, .int .i64 y, .int .i64 er])) ∧ Ext wy w') := Lib.hid fun wy he =>
            objOf_any (HIq.out.line.ext (HIq.out.ext.trans he)) HIq.out.nums (by have := HIq.out.len; omega) (by have := HIq.out.place; omega)
          clear HIA
          go_upto_region 32 with fail
          refine wp_region_held_drew (S := fun w' => w'.cell? ⟨g, 0, none⟩ = some (.slice A n c) ∧ w'.cell? ⟨g, 1, none⟩ = some (.int .i64 (a : Int)) ∧ w'.cell? ⟨g, 32, none⟩ = some (.int .i64 97) ∧ w'.cell? ⟨g, 33, none⟩ = some (.int .i64 k5)) (by kernel_rfl) ⟨c0, c1, c32, c33⟩ (fun hHeld => ?_)
          refine wpAnyH_take (i := 0) (v := (.pointer (some ⟨g, 0, none⟩))) rfl (by kernel_rfl) (by kernel_rfl) (by kernel_rfl) (fun _ _ _ h => h) (Or.inl ⟨by rfl, by (intro w hSw; obtain ⟨s0, s1, s2, s3⟩ := hSw; go_simp)⟩) hHeld ?_
          try simp only [List.getElem_toArray, List.getElem_cons_zero, List.getElem_cons_succ, Act.put, List.setIfInBounds_toArray, List.set_cons_zero, List.set_cons_succ]
          refine wpAnyH_take (i := 1) (v := (.pointer (some ⟨g, 0, none⟩))) rfl (by kernel_rfl) (by kernel_rfl) (by kernel_rfl) (fun _ _ _ h => h) (Or.inl ⟨by rfl, by (intro w hSw; obtain ⟨s0, s1, s2, s3⟩ := hSw; go_simp)⟩) hHeld ?_
          try simp only [List.getElem_toArray, List.getElem_cons_zero, List.getElem_cons_succ, Act.put, List.setIfInBounds_toArray, List.set_cons_zero, List.set_cons_succ]
          refine wpAnyH_take (i := 2) (v := (.pointer (some ⟨g, 0, none⟩))) rfl (by kernel_rfl) (by kernel_rfl) (by kernel_rfl) (fun _ _ _ h => h) (Or.inl ⟨by rfl, by (intro w hSw; obtain ⟨s0, s1, s2, s3⟩ := hSw; go_simp)⟩) hHeld ?_
          try simp only [List.getElem_toArray, List.getElem_cons_zero, List.getElem_cons_succ, Act.put, List.setIfInBounds_toArray, List.set_cons_zero, List.set_cons_succ]
          refine wpAnyH_take (i := 3) (v := (.pointer (some ⟨g, 0, none⟩))) rfl (by kernel_rfl) (by kernel_rfl) (by kernel_rfl) (fun _ _ _ h => h) (Or.inl ⟨by rfl, by (intro w hSw; obtain ⟨s0, s1, s2, s3⟩ := hSw; go_simp)⟩) hHeld ?_
          try simp only [List.getElem_toArray, List.getElem_cons_zero, List.getElem_cons_succ, Act.put, List.setIfInBounds_toArray, List.set_cons_zero, List.set_cons_succ]
          refine wpAnyH_take (i := 4) (v := (.slice A n c)) rfl (by kernel_rfl) (by kernel_rfl) (by kernel_rfl) (fun _ _ _ h => h) (Or.inl ⟨by rfl, by (intro w hSw; obtain ⟨s0, s1, s2, s3⟩ := hSw; go_simp)⟩) hHeld ?_
          try simp only [List.getElem_toArray, List.getElem_cons_zero, List.getElem_cons_succ, Act.put, List.setIfInBounds_toArray, List.set_cons_zero, List.set_cons_succ]
          refine wpAnyH_take (i := 5) (v := (.pointer (some ⟨g, 0, none⟩))) rfl (by kernel_rfl) (by kernel_rfl) (by kernel_rfl) (fun _ _ _ h => h) (Or.inl ⟨by rfl, by (intro w hSw; obtain ⟨s0, s1, s2, s3⟩ := hSw; go_simp)⟩) hHeld ?_
          try simp only [List.getElem_toArray, List.getElem_cons_zero, List.getElem_cons_succ, Act.put, List.setIfInBounds_toArray, List.set_cons_zero, List.set_cons_succ]
          refine wpAnyH_take (i := 6) (v := (.pointer (some ⟨g, 0, none⟩))) rfl (by kernel_rfl) (by kernel_rfl) (by kernel_rfl) (fun _ _ _ h => h) (Or.inl ⟨by rfl, by (intro w hSw; obtain ⟨s0, s1, s2, s3⟩ := hSw; go_simp)⟩) hHeld ?_
          try simp only [List.getElem_toArray, List.getElem_cons_zero, List.getElem_cons_succ, Act.put, List.setIfInBounds_toArray, List.set_cons_zero, List.set_cons_succ]
          refine wpAnyH_take (i := 7) (v := (.pointer (some ⟨g, 0, none⟩))) rfl (by kernel_rfl) (by kernel_rfl) (by kernel_rfl) (fun _ _ _ h => h) (Or.inl ⟨by rfl, by (intro w hSw; obtain ⟨s0, s1, s2, s3⟩ := hSw; go_simp)⟩) hHeld ?_
          try simp only [List.getElem_toArray, List.getElem_cons_zero, List.getElem_cons_succ, Act.put, List.setIfInBounds_toArray, List.set_cons_zero, List.set_cons_succ]
          refine wpAnyH_take (i := 8) (v := (.pointer (some ⟨g, 1, none⟩))) rfl (by kernel_rfl) (by kernel_rfl) (by kernel_rfl) (fun _ _ _ h => h) (Or.inl ⟨by rfl, by (intro w hSw; obtain ⟨s0, s1, s2, s3⟩ := hSw; go_simp)⟩) hHeld ?_
          try simp only [List.getElem_toArray, List.getElem_cons_zero, List.getElem_cons_succ, Act.put, List.setIfInBounds_toArray, List.set_cons_zero, List.set_cons_succ]
          refine wpAnyH_take (i := 9) (v := (.int .i64 (a : Int))) rfl (by kernel_rfl) (by kernel_rfl) (by kernel_rfl) (fun _ _ _ h => h) (Or.inl ⟨by rfl, by (intro w hSw; obtain ⟨s0, s1, s2, s3⟩ := hSw; go_simp)⟩) hHeld ?_
          try simp only [List.getElem_toArray, List.getElem_cons_zero, List.getElem_cons_succ, Act.put, List.setIfInBounds_toArray, List.set_cons_zero, List.set_cons_succ]
          refine wpAnyH_take (i := 10) (v := (.pointer (some ⟨g, 0, none⟩))) rfl (by kernel_rfl) (by kernel_rfl) (by kernel_rfl) (fun _ _ _ h => h) (Or.inl ⟨by rfl, by (intro w hSw; obtain ⟨s0, s1, s2, s3⟩ := hSw; go_simp)⟩) hHeld ?_
          try simp only [List.getElem_toArray, List.getElem_cons_zero, List.getElem_cons_succ, Act.put, List.setIfInBounds_toArray, List.set_cons_zero, List.set_cons_succ]
          refine wpAnyH_take (i := 11) (v := (.pointer (some ⟨g, 0, none⟩))) rfl (by kernel_rfl) (by kernel_rfl) (by kernel_rfl) (fun _ _ _ h => h) (Or.inl ⟨by rfl, by (intro w hSw; obtain ⟨s0, s1, s2, s3⟩ := hSw; go_simp)⟩) hHeld ?_
          try simp only [List.getElem_toArray, List.getElem_cons_zero, List.getElem_cons_succ, Act.put, List.setIfInBounds_toArray, List.set_cons_zero, List.set_cons_succ]
          refine wpAnyH_take (i := 12) (v := (.pointer (some ⟨g, 29, none⟩))) rfl (by kernel_rfl) (by kernel_rfl) (by kernel_rfl) (fun _ _ _ h => h) (Or.inl ⟨by rfl, by (intro w hSw; obtain ⟨s0, s1, s2, s3⟩ := hSw; go_simp)⟩) hHeld ?_
          try simp only [List.getElem_toArray, List.getElem_cons_zero, List.getElem_cons_succ, Act.put, List.setIfInBounds_toArray, List.set_cons_zero, List.set_cons_succ]
          refine wpAnyH_take (i := 13) (v := (.pointer (some ⟨g, 32, none⟩))) rfl (by kernel_rfl) (by kernel_rfl) (by kernel_rfl) (fun _ _ _ h => h) (Or.inl ⟨by rfl, by (intro w hSw; obtain ⟨s0, s1, s2, s3⟩ := hSw; go_simp)⟩) hHeld ?_
          try simp only [List.getElem_toArray, List.getElem_cons_zero, List.getElem_cons_succ, Act.put, List.setIfInBounds_toArray, List.set_cons_zero, List.set_cons_succ]
          refine wpAnyH_take (i := 14) (v := (.int .i64 97)) rfl (by kernel_rfl) (by kernel_rfl) (by kernel_rfl) (fun _ _ _ h => h) (Or.inl ⟨by rfl, by (intro w hSw; obtain ⟨s0, s1, s2, s3⟩ := hSw; go_simp)⟩) hHeld ?_
          try simp only [List.getElem_toArray, List.getElem_cons_zero, List.getElem_cons_succ, Act.put, List.setIfInBounds_toArray, List.set_cons_zero, List.set_cons_succ]
          refine wpAnyH_take (i := 15) (v := (.bool true)) rfl (by kernel_rfl) (by kernel_rfl) (by kernel_rfl) (fun _ _ _ h => h) (Or.inl ⟨by rfl, by (intro w hSw; obtain ⟨s0, s1, s2, s3⟩ := hSw; go_simp)⟩) hHeld ?_
          try simp only [List.getElem_toArray, List.getElem_cons_zero, List.getElem_cons_succ, Act.put, List.setIfInBounds_toArray, List.set_cons_zero, List.set_cons_succ]
          refine wpAnyH_take (i := 16) (v := (.pointer (some ⟨g, 0, none⟩))) rfl (by kernel_rfl) (by kernel_rfl) (by kernel_rfl) (fun _ _ _ h => h) (Or.inl ⟨by rfl, by (intro w hSw; obtain ⟨s0, s1, s2, s3⟩ := hSw; go_simp)⟩) hHeld ?_
          try simp only [List.getElem_toArray, List.getElem_cons_zero, List.getElem_cons_succ, Act.put, List.setIfInBounds_toArray, List.set_cons_zero, List.set_cons_succ]
          refine wpAnyH_take (i := 17) (v := (.pointer (some ⟨g, 0, none⟩))) rfl (by kernel_rfl) (by kernel_rfl) (by kernel_rfl) (fun _ _ _ h => h) (Or.inl ⟨by rfl, by (intro w hSw; obtain ⟨s0, s1, s2, s3⟩ := hSw; go_simp)⟩) hHeld ?_
          try simp only [List.getElem_toArray, List.getElem_cons_zero, List.getElem_cons_succ, Act.put, List.setIfInBounds_toArray, List.set_cons_zero, List.set_cons_succ]
          refine wpAnyH_take (i := 18) (v := (.pointer (some ⟨g, 29, none⟩))) rfl (by kernel_rfl) (by kernel_rfl) (by kernel_rfl) (fun _ _ _ h => h) (Or.inl ⟨by rfl, by (intro w hSw; obtain ⟨s0, s1, s2, s3⟩ := hSw; go_simp)⟩) hHeld ?_
          try simp only [List.getElem_toArray, List.getElem_cons_zero, List.getElem_cons_succ, Act.put, List.setIfInBounds_toArray, List.set_cons_zero, List.set_cons_succ]
          refine wpAnyH_take (i := 19) (v := (.pointer (some ⟨g, 33, none⟩))) rfl (by kernel_rfl) (by kernel_rfl) (by kernel_rfl) (fun _ _ _ h => h) (Or.inl ⟨by rfl, by (intro w hSw; obtain ⟨s0, s1, s2, s3⟩ := hSw; go_simp)⟩) hHeld ?_
          try simp only [List.getElem_toArray, List.getElem_cons_zero, List.getElem_cons_succ, Act.put, List.setIfInBounds_toArray, List.set_cons_zero, List.set_cons_succ]
          refine wpAnyH_take (i := 20) (v := (.int .i64 k5)) rfl (by kernel_rfl) (by kernel_rfl) (by kernel_rfl) (fun _ _ _ h => h) (Or.inl ⟨by rfl, by (intro w hSw; obtain ⟨s0, s1, s2, s3⟩ := hSw; go_simp)⟩) hHeld ?_
          try simp only [List.getElem_toArray, List.getElem_cons_zero, List.getElem_cons_succ, Act.put, List.setIfInBounds_toArray, List.set_cons_zero, List.set_cons_succ]
          refine wpAnyH_ready (rs := [21]) (by kernel_rfl) (by simp) ?_
          refine AllReadyH.cons rfl (fun K hK => ?_) AllReadyH.nil
          refine step_callf rfl 32 #[.slice A n c, .int .i64 (a : Int), .bool true, .int .i64 k5] rfl (by kernel_rfl) (fun u w' => ∃ x y er : Int, u = .tuple #[.int .i64 x, .int .i64 y, .int .i64 er] ∧ ofK l a true k5 x y er ∧ Ext wd.drew w') ((HOf.out _ (Ext.drew wd)).mono fun e w' ⟨⟨x, y, er, h1, h2⟩, h3⟩ => ⟨_, h2, x, y, er, rfl, h1, h3⟩) ?_
          rintro u W1 ⟨x, y, er, rfl, hR, hxc⟩
          refine hK.out _ _ ⟨hxc.cell c0, hxc.cell c1, hxc.cell c32, hxc.cell c33⟩ (fun hHeld2 => ?_)
          clear hK K hHeld
          try simp only [List.getElem_toArray, List.getElem_cons_zero, List.getElem_cons_succ, Act.put, List.setIfInBounds_toArray, List.set_cons_zero, List.set_cons_succ]
          refine wpAnyH_take (i := 22) (v := (.tuple #[.int .i64 x, .int .i64 y, .int .i64 er])) rfl (by kernel_rfl) (by kernel_rfl) (by kernel_rfl) (fun _ _ _ h => h) (Or.inl ⟨by rfl, by (intro w hSw; obtain ⟨s0, s1, s2, s3⟩ := hSw; go_simp)⟩) hHeld2 ?_
          try simp only [List.getElem_toArray, List.getElem_cons_zero, List.getElem_cons_succ, Act.put, List.setIfInBounds_toArray, List.set_cons_zero, List.set_cons_succ]
          refine wpAnyH_take (i := 23) (v := (.int .i64 x)) rfl (by kernel_rfl) (by kernel_rfl) (by kernel_rfl) (fun _ _ _ h => h) (Or.inl ⟨by rfl, by (intro w hSw; obtain ⟨s0, s1, s2, s3⟩ := hSw; go_simp)⟩) hHeld2 ?_
          try simp only [List.getElem_toArray, List.getElem_cons_zero, List.getElem_cons_succ, Act.put, List.setIfInBounds_toArray, List.set_cons_zero, List.set_cons_succ]
          refine wpAnyH_take (i := 24) (v := (.int .i64 y)) rfl (by kernel_rfl) (by kernel_rfl) (by kernel_rfl) (fun _ _ _ h => h) (Or.inl ⟨by rfl, by (intro w hSw; obtain ⟨s0, s1, s2, s3⟩ := hSw; go_simp)⟩) hHeld2 ?_
          try simp only [List.getElem_toArray, List.getElem_cons_zero, List.getElem_cons_succ, Act.put, List.setIfInBounds_toArray, List.set_cons_zero, List.set_cons_succ]
          refine wpAnyH_take (i := 25) (v := (.int .i64 er)) rfl (by kernel_rfl) (by kernel_rfl) (by kernel_rfl) (fun _ _ _ h => h) (Or.inl ⟨by rfl, by (intro w hSw; obtain ⟨s0, s1, s2, s3⟩ := hSw; go_simp)⟩) hHeld2 ?_
          try simp only [List.getElem_toArray, List.getElem_cons_zero, List.getElem_cons_succ, Act.put, List.setIfInBounds_toArray, List.set_cons_zero, List.set_cons_succ]
          refine wpAnyH_take (i := 26) (v := (.int .i64 x)) rfl (by kernel_rfl) (by kernel_rfl) (by kernel_rfl) (fun _ _ _ h => h) (Or.inl ⟨by rfl, by (intro w hSw; obtain ⟨s0, s1, s2, s3⟩ := hSw; go_simp)⟩) hHeld2 ?_
          try simp only [List.getElem_toArray, List.getElem_cons_zero, List.getElem_cons_succ, Act.put, List.setIfInBounds_toArray, List.set_cons_zero, List.set_cons_succ]
          refine wpAnyH_take (i := 27) (v := (.int .i64 y)) rfl (by kernel_rfl) (by kernel_rfl) (by kernel_rfl) (fun _ _ _ h => h) (Or.inl ⟨by rfl, by (intro w hSw; obtain ⟨s0, s1, s2, s3⟩ := hSw; go_simp)⟩) hHeld2 ?_
          try simp only [List.getElem_toArray, List.getElem_cons_zero, List.getElem_cons_succ, Act.put, List.setIfInBounds_toArray, List.set_cons_zero, List.set_cons_succ]
          refine wpAnyH_take (i := 28) (v := (.int .i64 er)) rfl (by kernel_rfl) (by kernel_rfl) (by kernel_rfl) (fun _ _ _ h => h) (Or.inl ⟨by rfl, by (intro w hSw; obtain ⟨s0, s1, s2, s3⟩ := hSw; go_simp)⟩) hHeld2 ?_
          try simp only [List.getElem_toArray, List.getElem_cons_zero, List.getElem_cons_succ, Act.put, List.setIfInBounds_toArray, List.set_cons_zero, List.set_cons_succ]
          refine wpAnyH_done (by kernel_rfl) ?_ _
          have HI1 := Lib.hid ((HIq.out.wext (Ext.drew wd)).wext hxc)
          have HG1 := Lib.hid (grows_trans HGq.out (ext_grows ((Ext.drew wd).trans hxc) (some g)))
          clear c0 c1 c31 c32 c33 hHeld2 HOf hxc HIq HGq HI' HG' hvb
          by_cases her : er = 0
          case neg =>
            have HF : Hid (DoneIs g w (OneOk l n a rl k1 k2 o 97 k5 fk fa POk) (OnePost g l n a rl k1 k2 o 97 k5 fk fa PPost) (.returned (.int .i64 er)) W1) := Lib.hid ⟨er, cs', rfl, HG1.out, fun h => absurd ((h.2.2 HM.out HO.out).span HV.out rfl hR).1 her, fun h => absurd h her⟩
            clear hR
            go_wp2_with fail
            go_ret
            exact HF.out
          subst her
          obtain ⟨f, t, rfl, rfl, hft, htn⟩ := of_bd hR
          rw [hln.out] at htn
          have HR := Lib.hid hR
          have HFT := Lib.hid (And.intro hft htn)
          have HOp := Lib.hid (operate_ok (f := f) (t := t) (whole := false) HI1.out hft htn HO3.out)
          clear hR hft htn
          go_wp2_with fail
          refine HOp.out.mono ?_
          rintro e w3 hd
          have HF : Hid (DoneIs g w (OneOk l n a rl k1 k2 o 97 k5 fk fa POk) (OnePost g l n a rl k1 k2 o 97 k5 fk fa PPost) e w3) := Lib.hid (hd.from HG1.out (fun h => (h.2.2 HM.out HO.out).span' HV.out rfl HR.out) (fun cs h => by
            obtain ⟨m, at_, md, rl', e', h1, h2⟩ := h
            exact .inr (.inr ⟨HM.out, HO.out, f, t, false, m, at_, md, rl', e', HFT.out.1, HFT.out.2, .inr ⟨HV.out, .inr rfl, rfl, HR.out⟩, h1, h2⟩)))
          obtain ⟨er2, cs3, rfl, _⟩ := hd
          clear HOp
          go_wp2_with fail
          go_ret
          exact HF.out
end Go.Proofs.Ytmhgndjmcignjaa
