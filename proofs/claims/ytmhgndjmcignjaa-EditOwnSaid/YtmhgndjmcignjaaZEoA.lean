/-
  For EditOwn: a command and a key come to one thing each; two lines told to be the same; a result where rows below, or its own text, have been spoilt.
-/
import Derived.Test.YtmhgndjmcignjaaZUnq
import Derived.Test.YtmhgndjmcignjaaZEdX
import Derived.Test.YtmhgndjmcignjaaZSpoE
import Derived.Test.YtmhgndjmcignjaaZRegG
import Derived.Test.YtmhgndjmcignjaaZJ10

namespace Go.Proofs.Ytmhgndjmcignjaa
open Go.RowKit
set_option linter.unusedVariables false
set_option linter.unusedSimpArgs false

theorem resZ_is (w : World) (b : Nat) : ResIs w b resZ [] 0 0 0 0 (fun _ => []) [] where
  size := rfl
  one := resZ_one
  text := ⟨none, 0, 0, rfl, OwnI.nil _ _⟩
  oat := rfl
  regs := fun j hj => ⟨.slice none 0 0, by
    match j, hj with
    | 0, _ => rfl | 1, _ => rfl | 2, _ => rfl | 3, _ => rfl | 4, _ => rfl | 5, _ => rfl | 6, _ => rfl | 7, _ => rfl | 8, _ => rfl | 9, _ => rfl | 10, _ => rfl | 11, _ => rfl | 12, _ => rfl | 13, _ => rfl | 14, _ => rfl | 15, _ => rfl | 16, _ => rfl | 17, _ => rfl | 18, _ => rfl | 19, _ => rfl | 20, _ => rfl | 21, _ => rfl | 22, _ => rfl | 23, _ => rfl | 24, _ => rfl | 25, _ => rfl | 26, _ => rfl
    | j + 27, h => exact absurd h (by omega), RegOw.nil _ _⟩
  c29 := rfl
  c30 := rfl
  c31 := rfl
  edit := ⟨_, rfl, EdOwn.nil _ _⟩
  far := fun B q d h g' hg' => by
    have h : some (Value.slice none 0 0) = some (Value.slice B q d) := h
    injection h with h
    rw [← h] at hg'
    cases hg'

theorem do_fix (l : List Int) (rl : Nat → List Int) (a fk fa k1 k2 k3 k4 k5 : Int) : ∃ m at_ md zk za rl' ed, ∀ (w : World) (A : Option Addr) (c : Nat) (rs : Array Value), Ints w A l.length c l → (∀ x ∈ l, (Lit.int .i64 x).wf = true) → (A = none → c = 0) → Regs w rs rl →
    Calls Try.prog 8 #[.agg #[.slice A l.length c, .int .i64 a], .agg rs, .agg #[.int .i64 fk, .int .i64 fa], .agg #[.int .i64 k1, .int .i64 k2, .int .i64 k3, .int .i64 k4, .int .i64 k5]] w fun e w' => Ext w w' ∧
      ∃ vs er, e = .returned (.tuple #[.agg vs, .int .i64 er]) ∧ ResIs w' (w.heap.size + 5) vs m at_ md zk za rl' ed := by
  by_cases h : ∃ m at_ md zk za rl' ed, ValidC l.length a k1 fk k3 ∧ DoRelV l l.length a.toNat rl k1 k2 (effF k3 k4).1 (effF k3 k4).2 k5 fk fa m at_ md zk za rl' ed
  · obtain ⟨m, at_, md, zk, za, rl', ed, hv, hrel⟩ := h
    refine ⟨m, at_, md, zk, za, rl', ed, fun w A c rs hl wl hA hr => (do_full (a := a) (fk := fk) (fa := fa) (k1 := k1) (k2 := k2) (k3 := k3) (k4 := k4) (k5 := k5) hl wl hA hr).mono ?_⟩
    rintro e w' ⟨hx, ⟨hno, _⟩ | ⟨vs, m', at', md', zk', za', r', ed', rfl, _, hres, hrel'⟩⟩
    · exact absurd ⟨hv, hrel.ok (fun h0 => (effF_zero h0).1)⟩ hno
    · obtain ⟨rfl, rfl, rfl, rfl, rfl, rfl, rfl⟩ := hrel.one hrel' (place_toNat hv.1.2.1 hv.1.2.2)
      exact ⟨hx, vs, 0, rfl, hres⟩
  · refine ⟨[], 0, 0, 0, 0, fun _ => [], [], fun w A c rs hl wl hA hr => (do_full (a := a) (fk := fk) (fa := fa) (k1 := k1) (k2 := k2) (k3 := k3) (k4 := k4) (k5 := k5) hl wl hA hr).mono ?_⟩
    rintro e w' ⟨hx, ⟨_, er, _, rfl⟩ | ⟨vs, m', at', md', zk', za', r', ed', rfl, hv, hres, hrel'⟩⟩
    · exact ⟨hx, resZ, er, rfl, resZ_is _ _⟩
    · exact absurd ⟨m', at', md', zk', za', r', ed', hv, hrel'⟩ h

theorem own_ne_blk {w : World} {base e z n c g t : Nat} {A : Option Addr} {xs : List Value} {cs : Array Value} (h : Own w base e z A n c xs) (hb : Blk w g t cs) (hne : t ≠ e) : ∀ k, (Value.slice A n c).ownBlock = some k → k ≠ g := by
  intro k hk hkg
  subst hkg
  rcases h.2 with ⟨hv, _⟩ | ⟨g', cap, cur, hv, _, hg, _⟩
  · rw [hv] at hk; cases hk
  · rw [hv] at hk
    have hk : some g' = some k := hk
    injection hk with hk
    subst hk
    unfold Blk at hb
    rw [hb] at hg
    injection hg with hg
    injection hg with _ hg
    exact hne hg

/-- What is turned lies below. -/
theorem ResIs.grown {w w' : World} {b g : Nat} {vs : Array Value} {m : List Int} {at_ md fk fa : Int} {rl : Nat → List Int} {e : List Spl} (h : ResIs w b vs m at_ md fk fa rl e) (hg : w.grownBy w' (some g)) (hb : g < b) : ResIs w' b vs m at_ md fk fa rl e :=
  { h with
    text := let ⟨B, q, d, h1, h2⟩ := h.text; ⟨B, q, d, h1, h2.grown hg hb⟩
    regs := fun j hj => let ⟨v, h1, h2⟩ := h.regs j hj; ⟨v, h1, h2.grown hg hb⟩
    edit := let ⟨v, h1, h2⟩ := h.edit; ⟨v, h1, h2.grown hg hb⟩
    far := fun B q d h0 g' hg' => by
      obtain ⟨h1, v, h2, h3⟩ := h.far B q d h0 g' hg'
      obtain ⟨B', q', d', h4, h5⟩ := h.text
      rw [h0] at h4
      injection h4 with h4
      injection h4 with e1 e2 e3
      subst e1; subst e2; subst e3
      have := (Own.blk h5 g' hg').1
      exact ⟨h1, v, h2, h3.grown hg (by omega)⟩ }
theorem GrowLow.res {b bb : Nat} {w w' : World} (h : GrowLow b w w') {vs : Array Value} {m : List Int} {at_ md fk fa : Int} {rl : Nat → List Int} {e : List Spl} (he : ResIs w bb vs m at_ md fk fa rl e) (hb : b ≤ bb) : ResIs w' bb vs m at_ md fk fa rl e :=
  h (fun x => ResIs x bb vs m at_ md fk fa rl e) (fun a c g h1 h2 h3 => h1.grown h2 (by omega)) he
theorem GrowLow.blk {b g t : Nat} {w w' : World} (h : GrowLow b w w') {cs : Array Value} (he : Blk w g t cs) (hb : b ≤ g) : Blk w' g t cs :=
  h (fun x => Blk x g t cs) (fun a c g' h1 h2 h3 => h1.grown h2 (fun e => by injection e with e; omega)) he
/-- The registers and the Edit of a result whose text has been spoilt. -/
theorem ResIs.spoilt {w w' : World} {b : Nat} {vs : Array Value} {m : List Int} {at_ md fk fa : Int} {rl : Nat → List Int} {e : List Spl} (h : ResIs w b vs m at_ md fk fa rl e) {B : Option Addr} {q d : Nat} (h0 : vs[0]? = some (.slice B q d)) (hg : w.grownBy w' (Value.slice B q d).ownBlock) : RegsO w' b (vs.extract 2 29) rl ∧ ∃ v, vs[32]? = some v ∧ EdOwn w' 0 v e := by
  have hr := h.regs'
  cases hB : (Value.slice B q d).ownBlock with
  | none =>
    rw [hB] at hg
    refine ⟨⟨hr.1, fun i hi => ?_⟩, ?_⟩
    · obtain ⟨v, h1, h2⟩ := hr.2 i hi
      exact ⟨v, h1, h2.kept hg (fun k hk e => by cases e)⟩
    · obtain ⟨v, h1, h2⟩ := h.edit
      exact ⟨v, h1, (h2.lower (Nat.zero_le _)).kept hg (fun k e => by cases e)⟩
  | some g' =>
    obtain ⟨h1, v, h2, h3⟩ := h.far B q d h0 g' hB
    rw [hB] at hg
    refine ⟨⟨hr.1, fun i hi => ?_⟩, v, h2, (h3.grown hg (Nat.lt_succ_self _)).lower (Nat.zero_le _)⟩
    obtain ⟨u, h4, h5⟩ := h.regs i hi
    refine ⟨u, by rw [Array.getElem?_extract, if_pos (by have := h.size; omega)]; exact h4, h5.kept hg (fun k hk e => ?_)⟩
    injection e with e
    subst e
    exact h1 i hi u h4 hk

set_option maxRecDepth 20000 in
set_option maxHeartbeats 4000000 in
/-- Lines that hold the same are told to be the same. -/
theorem sameLine_ok {w : World} {A B : Option Addr} {n c m d : Nat} {a : Int} {l : List Int} (hl : Ints w A n c l) (hl' : Ints w B m d l) :
    Calls Try.prog 17 #[.agg #[.slice A n c, .int .i64 a], .agg #[.slice B m d, .int .i64 a]] w fun e w' => e = .returned (.bool true) ∧ Ext w w' := by
  have hb1 := (Blk.new w 24 #[.slice A n c, .int .i64 a]).ext (Ext.alloc _ (.cells #[.slice B m d, .int .i64 a] 24))
  have hb2 : Blk ((w.alloc (.cells #[.slice A n c, .int .i64 a] 24)).alloc (.cells #[.slice B m d, .int .i64 a] 24)) (w.heap.size + 1) 24 #[.slice B m d, .int .i64 a] := by
    have := Blk.new (w.alloc (.cells #[.slice A n c, .int .i64 a] 24)) 24 #[.slice B m d, .int .i64 a]
    rwa [World.size_alloc] at this
  have hx : Ext w ((w.alloc (.cells #[.slice A n c, .int .i64 a] 24)).alloc (.cells #[.slice B m d, .int .i64 a] 24)) := (Ext.alloc _ _).to_alloc _
  have HEq := Lib.hid (equal_ext (hl.ext hx) (hl'.ext hx))
  rw [eqB_true.2 rfl] at HEq
  have HX := Lib.hid hx
  have B1 := Lib.hid hb1
  have B2 := Lib.hid hb2
  clear hl hl' hx hb1 hb2
  go_enter Try.func17, Try.ntmps17
  go_upto_region 1 with fail
  generalize (w.alloc (.cells #[.slice A n c, .int .i64 a] 24)).alloc (.cells #[.slice B m d, .int .i64 a] 24) = W at *
  obtain ⟨c0, c1⟩ := cells2L B1.out
  obtain ⟨d0, d1⟩ := cells2L B2.out
  have haa : (a == a) = true := by simp
  go_wp2_with fail
  refine HEq.out.mono ?_
  rintro e w' ⟨rfl, he⟩
  have HX2 := Lib.hid (HX.out.trans he)
  clear he HEq
  go_wp2_with fail
  go_ret
  exact ⟨rfl, HX2.out⟩
end Go.Proofs.Ytmhgndjmcignjaa
