/-
  What readers tell of an edit, and what Over makes of two, in plain words.
-/
import Derived.Test.YthphlghblmindaaSplO
namespace Go.Proofs.Ythphlghblmindaa
set_option linter.unusedVariables false

/-- What is left of an edit at a place. -/
def rdSkip (i : Int) : List Spl → List Spl
  | [] => []
  | s :: e => if s.t < i ∨ (s.t = i ∧ s.f < i) then rdSkip i e else s :: e
def rdText (i : Int) : List Spl → List Int
  | [] => []
  | s :: _ => if s.f = i then s.x else []
def rdGoes (i : Int) : List Spl → Bool
  | [] => false
  | s :: _ => decide (s.f ≤ i) && decide (i < s.t)
theorem rdSkip_skip {i j : Int} (h : j ≤ i) : ∀ e : List Spl, rdSkip i (rdSkip j e) = rdSkip i e
  | [] => rfl
  | s :: e => by
    simp only [rdSkip]
    by_cases h1 : s.t < j ∨ (s.t = j ∧ s.f < j)
    · rw [if_pos h1, if_pos (by omega), rdSkip_skip h e]
    · rw [if_neg h1]
      simp only [rdSkip]
/-- The text at a place; does its character go? -/
def txt (e : List Spl) (i : Nat) : List Int := rdText i (rdSkip i e)
def gos (e : List Spl) (i : Nat) : Bool := rdGoes i (rdSkip i e)

/-- Place by place. -/
def emA (l : List Int) (T : Nat → List Int) (G : Nat → Bool) : Nat → Nat → List Int
  | 0, i => T i
  | k + 1, i => T i ++ (if G i then [] else [gI l i]) ++ emA l T G k (i + 1)
theorem emA_congr {l : List Int} {T T' : Nat → List Int} {G G' : Nat → Bool} : ∀ (k i : Nat), (∀ j, i ≤ j → T j = T' j ∧ G j = G' j) → emA l T G k i = emA l T' G' k i
  | 0, i, h => (h i (Nat.le_refl _)).1
  | k + 1, i, h => by
    simp only [emA]
    rw [(h i (Nat.le_refl _)).1, (h i (Nat.le_refl _)).2, emA_congr k (i + 1) (fun j hj => h j (by omega))]
/-- Where nothing is done. -/
theorem emA_free {l : List Int} {T : Nat → List Int} {G : Nat → Bool} : ∀ (d k i : Nat), i + d ≤ l.length → (∀ j, i ≤ j → j < i + d → T j = [] ∧ G j = false) → emA l T G (d + k) i = (l.drop i).take d ++ emA l T G k (i + d)
  | 0, k, i, _, _ => by simp
  | d + 1, k, i, h0, h => by
    rw [show d + 1 + k = (d + k) + 1 by omega]
    simp only [emA]
    rw [(h i (by omega) (by omega)).1, (h i (by omega) (by omega)).2, emA_free d k (i + 1) (by omega) (fun j h1 h2 => h j (by omega) (by omega))]
    have e1 : l.drop i = gI l i :: l.drop (i + 1) := by
      rw [List.drop_eq_getElem_cons (by omega)]; simp [gI, show i < l.length by omega]
    rw [e1, show i + 1 + d = i + (d + 1) by omega]
    simp
/-- Where all goes. -/
theorem emA_gone {l : List Int} {T : Nat → List Int} {G : Nat → Bool} : ∀ (d k i : Nat), (∀ j, i ≤ j → j < i + d → T j = [] ∧ G j = true) → emA l T G (d + k) i = emA l T G k (i + d)
  | 0, k, i, _ => by simp
  | d + 1, k, i, h => by
    rw [show d + 1 + k = (d + k) + 1 by omega]
    simp only [emA]
    rw [(h i (by omega) (by omega)).1, (h i (by omega) (by omega)).2, emA_gone d k (i + 1) (fun j h1 h2 => h j (by omega) (by omega))]
    rw [show i + 1 + d = i + (d + 1) by omega]
    simp

theorem good_end {n : Int} {last : Int} {e : List Spl} (h : good n last e) (hl : n ≤ last) : e = [] := by
  cases e with
  | nil => rfl
  | cons s e => have := h.1; have := h.2.1; have := h.2.2.1; omega

theorem em_app (l : List Int) (n : Nat) (hn : l.length = n) : ∀ (e : List Spl) (a : Nat) (last : Int), good n last e → behind a e → a ≤ n → emA l (txt e) (gos e) (n - a) a = appF l a e
  | [], a, last, _, _, ha => by
    have h := emA_free (l := l) (T := txt []) (G := gos []) (n - a) 0 a (by omega) (fun j _ _ => ⟨rfl, rfl⟩)
    rw [Nat.add_zero] at h
    rw [h]
    simp only [emA, appF]
    rw [List.take_of_length_le (by rw [List.length_drop]; omega)]
    show _ ++ [] = _
    simp
  | s :: e, a, last, ⟨g1, g2, g3, g4, g5, g6⟩, hb, ha => by
    have haf : (a : Int) ≤ s.f := hb _ rfl
    obtain ⟨f, hf⟩ : ∃ f : Nat, s.f = f := ⟨s.f.toNat, by omega⟩
    obtain ⟨t, ht⟩ : ∃ t : Nat, s.t = t := ⟨s.t.toNat, by omega⟩
    rw [hf] at g1 g2 haf g4
    rw [ht] at g2 g3 g4 g6
    have keep : ∀ i : Nat, (i < t ∨ (i = t ∧ f = t)) → rdSkip i (s :: e) = s :: e := fun i hi => by
      simp only [rdSkip, hf, ht]
      rw [if_neg (by omega)]
    have past : ∀ i : Nat, (t < i ∨ (i = t ∧ f < t)) → rdSkip i (s :: e) = rdSkip i e := fun i hi => by
      simp only [rdSkip, hf, ht]
      rw [if_pos (by omega)]
    have e0 : appF l a (s :: e) = (l.drop a).take (f - a) ++ (s.x ++ appF l t e) := by
      simp only [appF, hf, ht, Int.toNat_natCast, List.append_assoc]
    have h1 := emA_free (l := l) (T := txt (s :: e)) (G := gos (s :: e)) (f - a) (n - f) a (by omega) (fun j j1 j2 => by
      unfold txt gos
      rw [keep j (by omega)]
      simp only [rdText, rdGoes, hf, ht]
      exact ⟨by rw [if_neg (by omega)], by simp; omega⟩)
    rw [show n - a = f - a + (n - f) by omega, h1, e0, show a + (f - a) = f by omega]
    congr 1
    have tf : txt (s :: e) f = s.x := by
      unfold txt; rw [keep f (by omega)]; simp only [rdText, hf, if_pos]
    by_cases hft : f = t
    · subst hft
      have gf : gos (s :: e) f = false := by
        unfold gos; rw [keep f (by omega)]; simp only [rdGoes, hf, ht]; simp
      by_cases hfn : f = n
      · have he : e = [] := good_end g6 (by omega)
        rw [show n - f = 0 by omega]
        simp only [emA]
        rw [tf, he, hfn]
        simp only [appF]
        rw [List.drop_of_length_le (by omega)]
        simp
      · rw [show n - f = (n - (f + 1)) + 1 by omega]
        simp only [emA]
        rw [tf, gf]
        have hbn : behind (f + 1) e := fun u hu => by
          cases e with
          | nil => cases hu
          | cons v e => cases hu; have := g6.1; omega
        rw [emA_congr (T' := txt e) (G' := gos e) _ _ (fun j hj => by unfold txt gos; rw [past j (by omega)]; exact ⟨rfl, rfl⟩)]
        rw [em_app l n hn e (f + 1) f g6 hbn (by omega), app_next (by omega) hbn]
        simp
    · have hlt : f < t := by omega
      have gf : gos (s :: e) f = true := by
        unfold gos; rw [keep f (by omega)]; simp only [rdGoes, hf, ht]; simp; omega
      rw [show n - f = (n - (f + 1)) + 1 by omega]
      simp only [emA]
      rw [tf, gf]
      have h2 := emA_gone (l := l) (T := txt (s :: e)) (G := gos (s :: e)) (t - (f + 1)) (n - t) (f + 1) (fun j j1 j2 => by
        unfold txt gos
        rw [keep j (by omega)]
        simp only [rdText, rdGoes, hf, ht]
        exact ⟨by rw [if_neg (by omega)], by simp; omega⟩)
      rw [show n - (f + 1) = t - (f + 1) + (n - t) by omega, h2, show f + 1 + (t - (f + 1)) = t by omega]
      have hbt : behind t e := behind_next g6 rfl
      rw [emA_congr (T' := txt e) (G' := gos e) _ _ (fun j hj => by unfold txt gos; rw [past j (by omega)]; exact ⟨rfl, rfl⟩)]
      rw [em_app l n hn e t t g6 hbt (by omega)]
      simp

/-- One place of Over. -/
def ovPut (a b : List Spl) (ahead : Bool) (i : Nat) (s : Bld) : Bld :=
  if ahead then (s.put (txt a i)).keeps (txt b i).length else (s.keeps (txt b i).length).put (txt a i)
def ovStep (n : Nat) (a b : List Spl) (ahead : Bool) (i : Nat) (s : Bld) : Bld :=
  if i = n ∨ gos b i = true then ovPut a b ahead i s else if gos a i then (ovPut a b ahead i s).drop else (ovPut a b ahead i s).keep
/-- The first k places. -/
def ovB (n : Nat) (a b : List Spl) (ahead : Bool) : Nat → Bld
  | 0 => bld0
  | k + 1 => ovStep n a b ahead k (ovB n a b ahead k)
def overF (n : Nat) (a b : List Spl) (ahead : Bool) : List Spl := (ovB n a b ahead (n + 1)).keep.out
/-- What comes of both. -/
def ovE (l : List Int) (a b : List Spl) (ahead : Bool) : Nat → Nat → List Int
  | 0, i => if ahead then txt a i ++ txt b i else txt b i ++ txt a i
  | k + 1, i => (if ahead then txt a i ++ txt b i else txt b i ++ txt a i) ++ (if gos b i then [] else if gos a i then [] else [gI l i]) ++ ovE l a b ahead k (i + 1)
theorem ovE_turned (l : List Int) (a b : List Spl) (ahead : Bool) : ∀ k i, ovE l a b ahead k i = ovE l b a (!ahead) k i
  | 0, i => by cases ahead <;> rfl
  | k + 1, i => by
    simp only [ovE]
    rw [ovE_turned l a b ahead k (i + 1)]
    congr 1
    cases ahead <;> cases gos a i <;> cases gos b i <;> rfl

theorem made_ovPut {M : List Int} {s : Bld} {R : List Int} {a b : List Spl} {ahead : Bool} {i : Nat} {rest : List Int} (h : Made M s R) (hf : Full s) (hr : M.drop s.a = txt b i ++ rest) (hM : s.a ≤ M.length) :
    Made M (ovPut a b ahead i s) (R ++ (if ahead then txt a i ++ txt b i else txt b i ++ txt a i)) ∧ Full (ovPut a b ahead i s) ∧ (ovPut a b ahead i s).a = s.a + (txt b i).length ∧ M.drop (s.a + (txt b i).length) = rest := by
  have hlen := congrArg List.length hr
  rw [List.length_drop, List.length_append] at hlen
  have htk : (M.drop s.a).take (txt b i).length = txt b i := by rw [hr, List.take_left]
  have hdr : M.drop (s.a + (txt b i).length) = rest := by rw [← List.drop_drop, hr, List.drop_left]
  unfold ovPut
  cases ahead with
  | true =>
    obtain ⟨p1, p2⟩ := made_put (x := txt a i) h
    have pf := full_put (x := txt a i) hf
    obtain ⟨k1, k2, k3⟩ := made_keeps p1 pf (txt b i).length (by rw [p2]; omega)
    rw [p2] at k1 k2
    rw [htk] at k1
    simp only [if_true]
    exact ⟨by rw [← List.append_assoc]; exact k1, k3, k2, hdr⟩
  | false =>
    obtain ⟨k1, k2, k3⟩ := made_keeps h hf (txt b i).length (by omega)
    rw [htk] at k1
    obtain ⟨p1, p2⟩ := made_put (x := txt a i) k1
    have pf := full_put (x := txt a i) k3
    simp only [Bool.false_eq_true, if_false]
    exact ⟨by rw [← List.append_assoc]; exact p1, pf, by rw [p2]; exact k2, hdr⟩

/-- What Over makes, place by place: the line that was made by b, over from what is left. -/
theorem made_over (l : List Int) (n : Nat) (a b : List Spl) (ahead : Bool) (M : List Int) (hM : M = emA l (txt b) (gos b) n 0) :
    ∀ k, k ≤ n → ∃ R, Made M (ovB n a b ahead k) R ∧ Full (ovB n a b ahead k) ∧ M.drop (ovB n a b ahead k).a = emA l (txt b) (gos b) (n - k) k ∧ R ++ ovE l a b ahead (n - k) k = ovE l a b ahead n 0
  | 0, _ => ⟨[], made_start M, nofun, by rw [hM]; rfl, rfl⟩
  | k + 1, hk => by
    obtain ⟨R, h1, h2, h3, h4⟩ := made_over l n a b ahead M hM k (by omega)
    rw [show n - k = (n - (k + 1)) + 1 by omega] at h3 h4
    simp only [emA, List.append_assoc] at h3
    simp only [ovE] at h4
    obtain ⟨p1, p2, p3, p4⟩ := made_ovPut (a := a) (ahead := ahead) h1 h2 h3 h1.1
    show ∃ R, Made M (ovStep n a b ahead k (ovB n a b ahead k)) R ∧ Full (ovStep n a b ahead k (ovB n a b ahead k)) ∧ _
    have hovB : ovB n a b ahead (k + 1) = ovStep n a b ahead k (ovB n a b ahead k) := rfl
    rw [hovB]
    unfold ovStep
    by_cases hg : gos b k = true
    · rw [if_pos (.inr hg)]
      rw [hg] at h4 p4
      simp only [if_true, List.append_nil, List.nil_append] at h4 p4
      exact ⟨_, p1, p2, by rw [p3]; exact p4, by rw [List.append_assoc]; exact h4⟩
    · have hg' : gos b k = false := by simpa using hg
      rw [if_neg (by rintro (h | h); omega; exact hg h)]
      rw [hg'] at h4 p4
      simp only [Bool.false_eq_true, if_false] at h4 p4
      have hlt : (ovPut a b ahead k (ovB n a b ahead k)).a < M.length := by
        rw [p3]
        have := congrArg List.length p4
        rw [List.length_drop, List.length_append] at this
        simp at this
        omega
      have hnx : M.drop ((ovPut a b ahead k (ovB n a b ahead k)).a + 1) = emA l (txt b) (gos b) (n - (k + 1)) (k + 1) ∧ gI M (ovPut a b ahead k (ovB n a b ahead k)).a = gI l k := by
        rw [p3] at hlt ⊢
        have e1 : M.drop ((ovB n a b ahead k).a + (txt b k).length) = gI M ((ovB n a b ahead k).a + (txt b k).length) :: M.drop ((ovB n a b ahead k).a + (txt b k).length + 1) := by
          rw [List.drop_eq_getElem_cons hlt]; simp [gI, hlt]
        rw [e1] at p4
        simp only [List.singleton_append, List.cons.injEq] at p4
        exact ⟨p4.2, p4.1⟩
      cases hga : gos a k with
      | true =>
        rw [hga] at h4
        simp only [if_true, List.append_nil] at h4
        obtain ⟨d1, d2⟩ := made_drop p1 hlt
        simp only [if_true]
        exact ⟨_, d1, full_drop p1, by rw [d2]; exact hnx.1, by rw [List.append_assoc]; exact h4⟩
      | false =>
        rw [hga] at h4
        simp only [Bool.false_eq_true, if_false] at h4
        obtain ⟨d1, d2⟩ := made_keep p1 p2 hlt
        simp only [Bool.false_eq_true, if_false]
        rw [hnx.2] at d1
        exact ⟨_, d1, full_keep _, by rw [d2]; exact hnx.1, by rw [List.append_assoc, List.append_assoc]; rw [List.append_assoc] at h4; exact h4⟩

theorem over_law (l : List Int) (n : Nat) (hl : l.length = n) (a b : List Spl) (ahead : Bool) (hb : chkF n b = 0) :
    appF (appF l 0 b) 0 (overF n a b ahead) = ovE l a b ahead n 0 ∧ form (appF l 0 b).length (-1) (overF n a b ahead) := by
  obtain ⟨_, _, hg, _⟩ := chkF_zero.1 hb
  have hM := em_app l n hl b 0 (-1) hg (behind_start hg) (by omega)
  rw [Nat.sub_zero] at hM
  obtain ⟨R, h1, h2, h3, h4⟩ := made_over l n a b ahead (appF l 0 b) hM.symm n (Nat.le_refl _)
  rw [Nat.sub_self] at h3 h4
  simp only [emA] at h3
  simp only [ovE] at h4
  obtain ⟨p1, p2, p3, p4⟩ := made_ovPut (a := a) (ahead := ahead) (rest := []) h1 h2 (by rw [h3, List.append_nil]) h1.1
  have hend : (ovPut a b ahead n (ovB n a b ahead n)).a = (appF l 0 b).length := by
    rw [p3]
    have := congrArg List.length p4
    rw [List.length_drop] at this
    have := p1.1
    rw [p3] at this
    simp at *
    omega
  obtain ⟨e1, e2⟩ := made_end p1 p2 hend
  have hov : overF n a b ahead = (ovPut a b ahead n (ovB n a b ahead n)).keep.out := by
    unfold overF
    show (ovStep n a b ahead n (ovB n a b ahead n)).keep.out = _
    unfold ovStep
    rw [if_pos (.inl rfl)]
  rw [hov, e1, h4]
  exact ⟨rfl, e2⟩
end Go.Proofs.Ythphlghblmindaa
