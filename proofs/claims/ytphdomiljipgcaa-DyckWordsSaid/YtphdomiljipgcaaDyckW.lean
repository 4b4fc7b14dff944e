/-
  Right lines: the plain law, the walk of dyck.Right, and the statement of Dyck.
-/
import Derived.Test.YtphdomiljipgcaaDyckL1
import Derived.Test.YtphdomiljipgcaaConc
namespace Go.Proofs.Ytphdomiljipgcaa
open Go.RowKit
set_option linter.unusedVariables false

def rstep (st : List Int) (c : Int) : Option (List Int) :=
  if othF c = 0 then some st else if cloF c = false then some (st ++ [c]) else if st.getLast? = some (othF c) then some st.dropLast else none
def rfold : List Int → List Int → Option (List Int)
  | [], st => some st
  | c :: l, st => (rstep st c).bind (rfold l)
def rightB (l : List Int) : Bool := decide (rfold l [] = some [])

theorem rfold_append : ∀ (l m st : List Int), rfold (l ++ m) st = (rfold l st).bind (rfold m)
  | [], m, st => rfl
  | c :: l, m, st => by
    simp only [List.cons_append, rfold]
    cases h : rstep st c with
    | none => rfl
    | some s => simp only [Option.bind_some]; exact rfold_append l m s
theorem rstep_frame {st st' : List Int} {c : Int} (p : List Int) (h : rstep st c = some st') : rstep (p ++ st) c = some (p ++ st') := by
  unfold rstep at h ⊢
  split at h
  · rename_i h1; rw [if_pos h1]; injection h with h; rw [h]
  · rename_i h1
    rw [if_neg h1]
    split at h
    · rename_i h2; rw [if_pos h2]; injection h with h; rw [← h]; simp
    · rename_i h2
      rw [if_neg h2]
      split at h
      · rename_i h3
        injection h with h
        obtain ⟨q, hq⟩ := List.getLast?_eq_some_iff.1 h3
        rw [hq] at h ⊢
        have hd : q = st' := by rw [← h]; simp
        subst hd
        rw [← List.append_assoc, List.getLast?_concat, if_pos rfl, List.dropLast_concat]
      · cases h
theorem rfold_frame : ∀ (l : List Int) {st st' : List Int} (p : List Int), rfold l st = some st' → rfold l (p ++ st) = some (p ++ st')
  | [], st, st', p, h => by injection h with h; rw [h]; rfl
  | c :: l, st, st', p, h => by
    simp only [rfold] at h ⊢
    cases h1 : rstep st c with
    | none => rw [h1] at h; cases h
    | some s =>
      rw [h1] at h
      rw [rstep_frame p h1]
      exact rfold_frame l p h
theorem right_join {l m : List Int} (hl : rightB l = true) : rightB (l ++ m) = rightB m := by
  have h := of_decide_eq_true hl
  unfold rightB
  rw [rfold_append, h]
  rfl
theorem right_in {l : List Int} (hl : rightB l = true) : rightB ([91] ++ (l ++ [93])) = true := by
  have h := of_decide_eq_true hl
  refine decide_eq_true ?_
  have h1 := rfold_frame l [91] h
  rw [rfold_append]
  have e0 : rfold [91] [] = some [91] := by decide
  rw [e0, Option.bind_some, rfold_append, show ([91] : List Int) = [91] ++ [] from rfl, h1, Option.bind_some]
  decide

/-- What one stack and the stacks of the kinds have in common. -/
def RI (l : List Int) (i : Nat) (st : List Int) : Prop :=
  ∃ S : List Nat, st = S.map (gI l) ∧ (∀ c, (drun l i).1 c = S.filter fun k => gI l k == c) ∧ ∀ j, j < i → othF (gI l j) ≠ 0 → cloF (gI l j) = true → (drun l i).2 j ≠ -1
theorem RI.start (l : List Int) : RI l 0 [] := ⟨[], rfl, fun _ => rfl, fun _ h => absurd h (by omega)⟩
theorem RI.step {l : List Int} {i : Nat} {st st' : List Int} (h : RI l i st) (hr : rstep st (gI l i) = some st') : RI l (i + 1) st' := by
  obtain ⟨S, rfl, h2, h3⟩ := h
  have hs : drun l (i + 1) = dstep (gI l i) i (drun l i) := rfl
  unfold rstep at hr
  split at hr
  · rename_i h1
    injection hr with hr
    rw [dstep_plain h1] at hs
    refine ⟨S, hr.symm, fun c => by rw [hs]; exact h2 c, fun j hj e1 e2 => ?_⟩
    have hji : j ≠ i := fun e => by subst e; exact e1 h1
    rw [hs]
    show updN (drun l i).2 i (-1) j ≠ -1
    unfold updN
    rw [if_neg hji]
    exact h3 j (by omega) e1 e2
  · rename_i h1
    split at hr
    · rename_i hc
      injection hr with hr
      rw [dstep_push h1 hc] at hs
      refine ⟨S ++ [i], by rw [← hr]; simp, fun c => ?_, fun j hj e1 e2 => ?_⟩
      · rw [hs, List.filter_append]
        show updL (drun l i).1 (gI l i) ((drun l i).1 (gI l i) ++ [i]) c = _
        unfold updL
        by_cases e : c = gI l i
        · subst e; rw [if_pos rfl, h2]; simp
        · rw [if_neg e, h2]
          have : (gI l i == c) = false := by simpa using fun e' => e e'.symm
          simp [this]
      · have hji : j ≠ i := fun e => by subst e; rw [hc] at e2; cases e2
        rw [hs]
        show updN (drun l i).2 i (-1) j ≠ -1
        unfold updN
        rw [if_neg hji]
        exact h3 j (by omega) e1 e2
    · rename_i hc
      have hc' : cloF (gI l i) = true := by cases h : cloF (gI l i) <;> simp_all
      split at hr
      · rename_i hl
        injection hr with hr
        obtain ⟨q, hq⟩ := List.getLast?_eq_some_iff.1 hl
        obtain ⟨S', k, rfl, hSq, hk⟩ : ∃ S' k, S = S' ++ [k] ∧ S'.map (gI l) = q ∧ gI l k = othF (gI l i) := by
          rcases List.eq_nil_or_concat S with h | ⟨S', k, h⟩
          · subst h; simp at hq
          · rw [List.concat_eq_append] at h
            subst h
            rw [List.map_append] at hq
            have := List.append_inj' hq rfl
            exact ⟨S', k, rfl, this.1, by simpa using this.2⟩
        have hlast : ((drun l i).1 (othF (gI l i))).getLast? = some k := by
          rw [h2, List.filter_append]
          simp [hk]
        rw [dstep_pop h1 hc' hlast] at hs
        refine ⟨S', by rw [← hr]; simp, fun c => ?_, fun j hj e1 e2 => ?_⟩
        · rw [hs]
          show updL (drun l i).1 (othF (gI l i)) ((drun l i).1 (othF (gI l i))).dropLast c = _
          unfold updL
          by_cases e : c = othF (gI l i)
          · subst e
            rw [if_pos rfl, h2, List.filter_append]
            simp [hk]
          · rw [if_neg e, h2, List.filter_append]
            have : (gI l k == c) = false := by rw [hk]; simpa using fun e' => e e'.symm
            simp [this]
        · rw [hs]
          show updN (updN (drun l i).2 i k) k i j ≠ -1
          unfold updN
          split
          · omega
          · split
            · omega
            · exact h3 j (by omega) e1 e2
      · cases hr
theorem RI.run {l : List Int} {n : Nat} (hn : l.length = n) : ∀ (k : Nat) (st st' : List Int), k ≤ n → RI l (n - k) st → rfold (l.drop (n - k)) st = some st' → RI l n st'
  | 0, st, st', _, h, hr => by
    rw [Nat.sub_zero] at h hr
    rw [List.drop_of_length_le (by omega)] at hr
    injection hr with hr
    rw [← hr]; exact h
  | k + 1, st, st', hk, h, hr => by
    have hlt : n - (k + 1) < l.length := by omega
    rw [List.drop_eq_getElem_cons hlt] at hr
    simp only [rfold] at hr
    have hg : l[n - (k + 1)] = gI l (n - (k + 1)) := by simp [gI, hlt]
    cases h1 : rstep st l[n - (k + 1)] with
    | none => rw [h1] at hr; cases hr
    | some s =>
      rw [h1, Option.bind_some, show n - (k + 1) + 1 = n - k by omega] at hr
      rw [hg] at h1
      have h2 := h.step h1
      rw [show n - (k + 1) + 1 = n - k by omega] at h2
      exact RI.run hn k s st' (by omega) h2 hr
/-- What is right has all its partners. -/
theorem right_all {l : List Int} (h : rightB l = true) {j : Nat} (hj : j < l.length) (ho : othF (gI l j) ≠ 0) : 0 ≤ gI (pairsF l) j := by
  have hr : rfold (l.drop (l.length - l.length)) [] = some [] := by
    rw [Nat.sub_self, List.drop_zero]; exact of_decide_eq_true h
  obtain ⟨S, hS, h2, h3⟩ := RI.run rfl l.length [] [] (Nat.le_refl _) (by rw [Nat.sub_self]; exact RI.start l) hr
  have hS0 : S = [] := by
    cases S with
    | nil => rfl
    | cons a b => simp at hS
  subst hS0
  rcases pairs_says hj with e | ⟨k, hk, _⟩
  · rw [pairsF_at hj] at e
    cases hc : cloF (gI l j) with
    | true => exact absurd e (h3 j hj ho hc)
    | false =>
      have := (drun_DI l l.length).none_ j hj e ho hc
      rw [h2] at this
      cases this
  · omega

theorem rfold_snoc (l : List Int) (i : Nat) (h : i < l.length) (st : List Int) (hst : rfold (l.take i) [] = some st) : rfold (l.take (i + 1)) [] = rstep st (gI l i) := by
  rw [List.take_succ_eq_append_getElem h, rfold_append, hst, Option.bind_some]
  have hg : l[i] = gI l i := by simp [gI, h]
  rw [hg]
  simp only [rfold]
  cases rstep st (gI l i) <;> rfl
theorem rfold_bad {l : List Int} {i : Nat} (h : i < l.length) {st : List Int} (hst : rfold (l.take i) [] = some st) (hb : rstep st (gI l i) = none) : rightB l = false := by
  have h1 := rfold_snoc l i h st hst
  unfold rightB
  rw [← List.take_append_drop (i + 1) l, rfold_append, h1, hb]
  rfl
theorem rstack_len {l : List Int} : ∀ (i : Nat) {st : List Int}, i ≤ l.length → rfold (l.take i) [] = some st → st.length ≤ i
  | 0, st, _, h => by simp [rfold] at h; rw [h]; simp
  | i + 1, st, hi, h => by
    cases h1 : rfold (l.take i) [] with
    | none =>
      rw [List.take_succ_eq_append_getElem (by omega), rfold_append, h1] at h
      cases h
    | some s =>
      have ih := rstack_len i (by omega) h1
      rw [rfold_snoc l i (by omega) s h1] at h
      unfold rstep at h
      split at h
      · injection h with h; rw [← h]; omega
      · split at h
        · injection h with h; rw [← h]; simp; omega
        · split at h
          · injection h with h; rw [← h]; simp; omega
          · cases h

set_option maxHeartbeats 4000000 in
theorem right_ok {l : List Int} {A : Option Addr} {n c : Nat} {w : World} (hl : Ints w A n c l) (hn : n ≤ 4096) :
    Calls Try.prog 10 #[.slice A n c] w fun e w' => e = .returned (.tuple #[.bool (rightB l), .int .i64 0]) ∧ Ext w w' := by
  obtain ⟨i0, hi, hz0, hz1, hz2⟩ := info_parts info_int
  have hlen := Lib.hid hl.len
  go_enter Try.func10, Try.ntmps10
  go_wp2_with fail
  go_loopw [4, 14] (fun v i wr => ∃ (j k : Nat) (C : Option Addr) (cap : Nat) (st : List Int), j ≤ n ∧ i = .int .i64 j ∧ v = .slice C k cap ∧ k ≤ j ∧ OwnI wr w.heap.size C k cap st ∧ Hid (rfold (l.take j) [] = some st) ∧ Ext w wr) (fun _ i _ => n - (intOf i).toNat)
  case atStart => exact ⟨0, 0, none, 0, [], by omega, rfl, rfl, by omega, OwnI.nil _ _, by rfl, Ext.refl _⟩
  case round =>
    obtain ⟨j, k, C, cap, st, hj, rfl, rfl, hkj, hown, hst, he⟩ := hrel
    have hkl := Lib.hid hown.ints.len
    have hkc := hown.ints.ncap
    by_cases hlt : j < n
    · obtain ⟨ad, rfl, hc⟩ := hl.at_ hlt
      have cj := he.cell (hc j hlt)
      clear hc
      go_wp2_with fail
      refine (other_ok _ _).mono ?_
      rintro e w2 ⟨rfl, rfl⟩
      have hsn := rfold_snoc l j (by rw [hlen.out]; exact hlt) st hst.out
      by_cases ho : othF (gI l j) = 0
      · have e1 : (othF (gI l j) == 0) = true := by simpa using ho
        have hst2 : Hid (rfold (l.take (j + 1)) [] = some st) := by show _ = _; rw [hsn]; unfold rstep; rw [if_pos ho]
        clear hsn ho
        go_wp2_with fail
        go_roundw
        case rel => exact ⟨j + 1, k, C, cap, st, by omega, by go_num, rfl, by omega, hown, hst2, he⟩
        case measure => simp [intOf]; omega
      have e1 : (othF (gI l j) == 0) = false := by simpa using ho
      cases hclo : cloF (gI l j) with
      | false =>
        have hst2 : Hid (rfold (l.take (j + 1)) [] = some (st ++ [gI l j])) := by show _ = _; rw [hsn]; unfold rstep; rw [if_neg ho, if_pos hclo]
        clear hsn ho
        go_wp2_with (at_builtin; refine wpList_push rfl (.tmp 34) (.tmp 36) 22 rfl w w.heap.size 3 i0 (.int .i64 0) 1 8 Try.underlying22 hi hz0 hz1 hz2 rfl (by decide) C k cap _ rfl hown _ rfl ?_ rfl ?_ ?_ he (Nat.le_refl _) he.hsize ?_)
        · rfl
        · unfold maxLen; omega
        · omega
        · intro C' cap' w3 hown' _ _ he3
          have hown3 : OwnI w3 w.heap.size C' (k + 1) cap' (st ++ [gI l j]) := by simpa [OwnI] using hown'
          clear hown hown' he
          go_wp2_with fail
          go_roundw
          case rel => exact ⟨j + 1, k + 1, C', cap', _, by omega, by go_num, rfl, by omega, hown3, hst2, he3⟩
          case measure => simp [intOf]; omega
      | true =>
        rcases Nat.eq_zero_or_pos k with hk0 | hk0
        · subst hk0
          have hs0 : st = [] := List.eq_nil_of_length_eq_zero hkl.out
          have hbad : Hid (rightB l = false) := rfold_bad (by rw [hlen.out]; exact hlt) hst.out (by unfold rstep; rw [if_neg ho, if_neg (by rw [hclo]; simp), hs0]; simp)
          clear hsn ho hs0
          go_wp2_with fail
          go_ret2
          exact ⟨ret_tup2 (boo_eq hbad.out.symm) rfl, he⟩
        · obtain ⟨ca, rfl, hcc⟩ := hown.ints.at_ hk0
          have cl := hcc (k - 1) (by omega)
          have hlast : st.getLast? = some (gI st (k - 1)) := by
            have h1 := hkl.out
            rw [List.getLast?_eq_getElem?, h1]
            simp [gI, show k - 1 < st.length by omega]
          have hk1 : ((k : Int) == 0) = false := by simp; omega
          by_cases hm : gI st (k - 1) = othF (gI l j)
          · have hst2 : Hid (rfold (l.take (j + 1)) [] = some (st.take (k - 1))) := by
              show _ = _
              rw [hsn]; unfold rstep
              rw [if_neg ho, if_neg (by rw [hclo]; simp), hlast, hm, if_pos rfl, List.dropLast_eq_take, hkl.out]
            have hown2 : OwnI wr w.heap.size (some ca) (k - 1) cap (st.take (k - 1)) := by
              have := Own.pop hown (k := k - 1) (by omega) hk0
              unfold OwnI
              rw [List.map_take]
              exact this
            have e2 : (gI st (k - 1) != othF (gI l j)) = false := by simpa using hm
            clear hsn ho hlast hcc hm
            go_wp2_with fail
            go_roundw
            case rel => exact ⟨j + 1, k - 1, some ca, cap, _, by omega, by go_num, by go_num, by omega, hown2, hst2, he⟩
            case measure => simp [intOf]; omega
          · have hbad : Hid (rightB l = false) := rfold_bad (by rw [hlen.out]; exact hlt) hst.out (by
              unfold rstep
              rw [if_neg ho, if_neg (by rw [hclo]; simp), hlast, if_neg (by simpa using hm)])
            have e2 : (gI st (k - 1) != othF (gI l j)) = true := by simpa using hm
            clear hsn ho hlast hcc hm
            go_wp2_with fail
            go_ret2
            exact ⟨ret_tup2 (boo_eq hbad.out.symm) rfl, he⟩
    · obtain rfl : j = n := by omega
      have hres : Hid (rightB l = (k == 0)) := by
        show _ = _
        have h1 := hst.out
        rw [List.take_of_length_le (by rw [hlen.out]; omega)] at h1
        unfold rightB
        rw [h1]
        have h2 := hkl.out
        cases st with
        | nil => simp at h2; subst h2; simp
        | cons a b => simp at h2; subst h2; simp
      go_wp2_with fail
      go_ret2
      exact ⟨ret_tup2 (boo_eq (by rw [hres.out, Bool.eq_iff_iff]; simp)) rfl, he⟩

set_option maxHeartbeats 400000 in
theorem right_large {A : Option Addr} {n c : Nat} {w : World} (hn : 4096 < n) (hm : n ≤ maxLen) :
    Calls Try.prog 10 #[.slice A n c] w fun e w' => e = .returned (.tuple #[.bool false, .int .i64 2]) ∧ w = w' := by
  unfold maxLen at hm
  go_enter Try.func10, Try.ntmps10
  go_wp2_with fail
  go_ret2
  exact ⟨rfl, rfl⟩
theorem right_one : rightB (chars ⟨#[40, 91, 41, 93]⟩) = false := by decide +kernel
theorem right_two : rightB (chars ⟨#[40, 97, 91, 98, 93, 41]⟩) = true := by decide +kernel

set_option maxHeartbeats 8000000 in
set_option maxRecDepth 100000 in
theorem dyckWords_walk {l m : List Int} {A B : Option Addr} {n c k d : Nat} {w : World} (hl : Ints w A n c l) (wl : ∀ x ∈ l, (Lit.int .i64 x).wf = true) (hm : Ints w B k d m) :
    Calls Try.prog 5 #[.slice A n c, .slice B k d] w fun e w' => e = .returned (.bool true) ∧ Ext w w' := by
  have hcm := hl.nmax
  have hnc := hl.ncap
  have hdm := hm.nmax
  have hkd := hm.ncap
  have hlen := Lib.hid hl.len
  unfold maxLen at hcm hdm
  have q1 := right_one
  have q2 := right_two
  go_enter Try.func5, Try.ntmps5
  go_wp2_with fail
  refine (of_ok _ _ (by decide)).mono ?_
  rintro e w1 ⟨A1, c1, rfl, ho1, he1⟩
  go_wp2_with fail
  refine (right_ok ho1.ints (by decide)).mono ?_
  rintro e w2 ⟨rfl, he2⟩
  go_wp2_with fail
  refine (of_ok _ _ (by decide)).mono ?_
  rintro e w3 ⟨A3, c3, rfl, ho3, he3⟩
  go_wp2_with fail
  refine (right_ok ho3.ints (by decide)).mono ?_
  rintro e w4 ⟨rfl, he4⟩
  have e4 : Ext w w4 := he1.trans (he2.trans (he3.trans he4))
  clear he1 he2 he3 he4 ho1 ho3
  go_wp2_with fail
  -- what the two calls of Right come to
  have key : ∀ (x : List Int) (X : Option Addr) (nx cx : Nat) (v : World), Ints v X nx cx x → Calls Try.prog 10 #[.slice X nx cx] v fun e w' => e = .returned (.tuple #[.bool (if nx ≤ 4096 then rightB x else false), .int .i64 (if nx ≤ 4096 then 0 else 2)]) ∧ Ext v w' := by
    intro x X nx cx v hx
    by_cases h : nx ≤ 4096
    · rw [if_pos h, if_pos h]; exact right_ok hx h
    · rw [if_neg h, if_neg h]
      exact (right_large (by omega) (Nat.le_trans hx.ncap hx.nmax)).mono fun e w' ⟨h1, h2⟩ => ⟨h1, by rw [h2]; exact Ext.refl _⟩
  have KEY := Lib.hid key
  clear key
  by_cases hn : n ≤ 4096
  case neg =>
    refine (right_large (by omega) (by unfold maxLen; omega)).mono ?_
    rintro e w5 ⟨rfl, rfl⟩
    go_wp2_with fail
    refine (KEY.out _ _ _ _ _ (hm.ext e4)).mono ?_
    rintro e w6 ⟨rfl, he6⟩
    go_wp2_with fail
    all_goals go_ret
    all_goals exact ⟨rfl, e4.trans he6⟩
  refine (right_ok (hl.ext e4) hn).mono ?_
  rintro e w5 ⟨rfl, he5⟩
  have e5 := e4.trans he5
  clear e4 he5
  go_wp2_with fail
  by_cases hk : k ≤ 4096
  case neg =>
    refine (right_large (by omega) (by unfold maxLen; omega)).mono ?_
    rintro e w6 ⟨rfl, rfl⟩
    go_wp2_with fail
    go_ret
    exact ⟨rfl, e5⟩
  refine (right_ok (hm.ext e5) hk).mono ?_
  rintro e w6 ⟨rfl, he6⟩
  have e6 := e5.trans he6
  clear e5 he6 KEY
  by_cases hsum : 4096 < n + k + 2
  · go_wp2_with fail
    go_ret
    exact ⟨rfl, e6⟩
  go_wp2_with fail
  refine (concat_ok (Rd.litAt w6 _ [.slice A n c, .slice B k d] rfl rfl (Nat.le_of_ble_eq_true rfl)) (Lists.ext (Lists.two (hl.ext e6) (hm.ext e6)) (Ext.alloc _ _)) rfl (by simp; rw [hlen.out, hm.len]; omega)).mono ?_
  rintro e w7 ⟨C, nc, cc, rfl, hc7, he7⟩
  have e7 := e6.trans ((Ext.alloc _ _).trans he7)
  have hcl := hc7.ints.len
  rw [show ([l, m] : List (List Int)).flatten = l ++ m by simp] at hc7 hcl
  have hnc7 : nc ≤ 4096 := by rw [List.length_append, hlen.out, hm.len] at hcl; omega
  clear he7 hcl e6
  go_wp2_with fail
  refine (right_ok hc7.ints hnc7).mono ?_
  rintro e w8 ⟨rfl, he8⟩
  have e8 := e7.trans he8
  clear e7 he8 hc7
  go_wp2_with fail
  have i1 : Ints (w8.alloc (.cells #[.int .i64 91] 3)) (some ⟨w8.heap.size, 0, none⟩) 1 1 [91] := Ints.litAt w8 _ [91] rfl rfl (by decide)
  have i2 : Ints ((w8.alloc (.cells #[.int .i64 91] 3)).alloc (.cells #[.int .i64 93] 3)) (some ⟨w8.heap.size + 1, 0, none⟩) 1 1 [93] := Ints.litAt (w8.alloc (.cells #[.int .i64 91] 3)) _ [93] (by simp) rfl (by decide)
  have hL := Lists.three (i1.ext (Ext.alloc _ (.cells #[.int .i64 93] 3))) ((hl.ext e8).ext ((Ext.alloc _ (.cells #[.int .i64 91] 3)).to_alloc (.cells #[.int .i64 93] 3))) i2
  refine (concat_ok (Rd.litAt _ _ [.slice (some ⟨w8.heap.size, 0, none⟩) 1 1, .slice A n c, .slice (some ⟨w8.heap.size + 1, 0, none⟩) 1 1] (by simp) rfl (Nat.le_of_ble_eq_true rfl)) (hL.ext (Ext.alloc _ _)) rfl (by simp; rw [hlen.out]; omega)).mono ?_
  rintro e w9 ⟨D, nd, cd, rfl, hc9, he9⟩
  have e9 := e8.trans ((((Ext.alloc _ _).to_alloc _).to_alloc _).trans he9)
  have hdl := hc9.ints.len
  rw [show ([[91], l, [93]] : List (List Int)).flatten = [91] ++ (l ++ [93]) by simp] at hc9 hdl
  have hnd : nd ≤ 4096 := by rw [List.length_append, List.length_append, hlen.out] at hdl; simp at hdl; omega
  clear he9 hdl e8 i1 i2 hL
  go_wp2_with fail
  refine (right_ok hc9.ints hnd).mono ?_
  rintro e w10 ⟨rfl, he10⟩
  have e10 := e9.trans he10
  clear e9 he10 hc9
  cases hA : rightB l with
  | false =>
    generalize rightB (l ++ m) = r1
    generalize rightB ([91] ++ (l ++ [93])) = r2
    generalize rightB m = r3
    clear hA
    go_wp2_with fail
    refine (pairs_ints (hl.ext e10) wl hn).mono ?_
    rintro e w11 ⟨P, rfl, hp, he11⟩
    have e11 := e10.trans he11
    clear e10 he11
    go_wp2_with fail
    go_loopw [118] (fun i wr => ∃ j : Nat, j ≤ n ∧ i = .int .i64 j ∧ wr = w11) (fun i _ => n - (intOf i).toNat)
    case atStart => exact ⟨0, by omega, rfl, rfl⟩
    case round =>
      obtain ⟨j, hj, rfl, rfl⟩ := hrel
      by_cases hlt : j < n
      · obtain ⟨la, rfl, hlc⟩ := hl.at_ hlt
        have xl := e11.cell (hlc j hlt)
        clear hlc
        go_wp2_with fail
        refine (kind_ok _ _).mono ?_
        rintro e w12 ⟨rfl, rfl⟩
        go_wp2_with fail
        exact ⟨⟨j + 1, by omega, by go_num, trivial⟩, by simp [intOf]; omega⟩
      · go_wp2_with fail
        go_ret
        exact ⟨rfl, e11⟩
  | true =>
    have f1 := right_join (m := m) hA
    have f2 := right_in hA
    rw [f1, f2]
    have HA := Lib.hid hA
    clear hA f1 f2
    cases hB : rightB m
    all_goals
      clear hB
      go_wp2_with fail
      refine (pairs_ints (hl.ext e10) wl hn).mono ?_
      rintro e w11 ⟨P, rfl, hp, he11⟩
      have e11 := e10.trans he11
      clear he11
      go_wp2_with fail
      go_loopw [118] (fun i wr => ∃ j : Nat, j ≤ n ∧ i = .int .i64 j ∧ wr = w11) (fun i _ => n - (intOf i).toNat)
      case atStart => exact ⟨0, by omega, rfl, rfl⟩
      case round =>
        obtain ⟨j, hj, rfl, rfl⟩ := hrel
        by_cases hlt : j < n
        · obtain ⟨la, rfl, hlc⟩ := hl.at_ hlt
          obtain ⟨pa, rfl, hpc⟩ := hp.at_ hlt
          have xl := e11.cell (hlc j hlt)
          have xp := hpc j hlt
          clear hlc hpc
          by_cases ho : othF (gI l j) = 0
          · have o1 : (othF (gI l j) != 0) = false := by simpa using ho
            clear ho
            go_wp2_with fail
            refine (kind_ok _ _).mono ?_
            rintro e w12 ⟨rfl, rfl⟩
            go_wp2_with fail
            exact ⟨⟨j + 1, by omega, by go_num, trivial⟩, by simp [intOf]; omega⟩
          · have o1 : (othF (gI l j) != 0) = true := by simpa using ho
            have o2 := right_all (l := l) HA.out (j := j) (by rw [hlen.out]; exact hlt) ho
            clear ho
            go_wp2_with fail
            refine (kind_ok _ _).mono ?_
            rintro e w12 ⟨rfl, rfl⟩
            go_wp2_with fail
            exact ⟨⟨j + 1, by omega, by go_num, trivial⟩, by simp [intOf]; omega⟩
        · go_wp2_with fail
          go_ret
          exact ⟨rfl, e11⟩
end Go.Proofs.Ytphdomiljipgcaa
