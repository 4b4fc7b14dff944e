/-
  In two lines joined: the walk.
-/
import Derived.Test.YtgpagfbmbnlcpaaSeekJ
namespace Go.Proofs.Ytgpagfbmbnlcpaa
open Go.RowKit
set_option linter.unusedVariables false
set_option linter.unusedSimpArgs false

/-- All, whatever the sizes. -/
theorem all_any {p s : List Int} {A B : Option Addr} {n m c d : Nat} {w : World} (hp : Ints w A n c p) (hs : Ints w B m d s) :
    Calls Try.prog 10 #[.slice A n c, .slice B m d] w fun e w' => (∃ C n' c' k, e = .returned (.tuple #[.slice C n' c', .int .i64 k])) ∧ Ext w w' := by
  by_cases h : 4096 < n ∨ 4096 < m
  · refine (all_large hp hs h).mono ?_
    rintro e w1 ⟨rfl, he⟩
    exact ⟨⟨_, _, _, _, rfl⟩, he⟩
  · refine (all_ok hp hs (by omega) (by omega)).mono ?_
    rintro e w1 ⟨C, n', c', rfl, _, he⟩
    exact ⟨⟨_, _, _, _, rfl⟩, he⟩

theorem sj_lit : (allP (chars ⟨#[97, 98]⟩) (chars ⟨#[97, 98, 97, 98]⟩)).length = 2 := by decide +kernel

set_option maxHeartbeats 1000000 in
theorem notin_no {J : List Int} {A : Option Addr} {n c : Nat} {v : Int} {p : Addr} {w : World} (hp : w.cell? p = some (.slice A n c)) (hJ : Ints w A n c J) (h : v ∈ J) :
    Calls Try.prog 18 #[.int .i64 v, .pointer (some p)] w fun e w' => e = .returned (.bool false) ∧ Ext w w' := by
  have HC := Lib.hid (contains_yes hJ h)
  clear h hJ
  go_enter Try.func18, Try.ntmps18
  go_wp2_with fail
  refine HC.out.mono ?_
  rintro e w1 ⟨rfl, he⟩
  go_wp2_with fail
  go_ret
  exact ⟨rfl, he⟩

set_option maxRecDepth 20000 in
set_option maxHeartbeats 4000000 in
theorem indexN_ok {J l : List Int} {A B : Option Addr} {n c m d : Nat} {p : Addr} {w : World} (hp : w.cell? p = some (.slice A n c)) (hJ : Ints w A n c J) (hl : Ints w B m d l) (h : ∀ v ∈ l, v ∈ J) :
    Calls Try.prog 21 #[.slice B m d, .func (.func 18) #[] #[.pointer (some p)]] w fun e w' => e = .returned (.int .i64 (-1)) ∧ Ext w w' := by
  have hml := Lib.hid hl.len
  have hmd := hl.ncap
  have hdm := hl.nmax
  unfold maxLen at hdm
  have HJ := Lib.hid hJ
  have HH := Lib.hid h
  clear h hJ
  go_enter Try.func21, Try.ntmps21
  go_wp2_with fail
  go_loopw [8] (fun v wr => ∃ j : Nat, j ≤ m ∧ v = .int .i64 j ∧ Ext w wr) (fun v _ => m - (intOf v).toNat)
  case atStart => exact ⟨0, by omega, rfl, Ext.refl _⟩
  case round =>
    obtain ⟨j, hj, rfl, he⟩ := hrel
    by_cases hlt : j < m
    · obtain ⟨ad, rfl, hc⟩ := hl.at_ hlt
      have c0 := he.cell (hc j hlt)
      have HT := Lib.hid (notin_no (he.cell hp) (HJ.out.ext he) (HH.out (gI l j) (mem_gI (by rw [hml.out]; exact hlt))))
      clear hc
      generalize gI l j = z at *
      go_wp2_with fail
      refine HT.out.mono ?_
      rintro e w1 ⟨rfl, he1⟩
      clear HT
      go_wp2_with fail
      go_roundw
      case rel => exact ⟨j + 1, by omega, by go_num, he.trans he1⟩
      case measure => simp [intOf]; omega
    · obtain rfl : j = m := by omega
      go_wp2_with fail
      go_ret
      exact ⟨rfl, he⟩
set_option maxHeartbeats 1000000 in
theorem containsN_ok {J l : List Int} {A B : Option Addr} {n c m d : Nat} {p : Addr} {w : World} (hp : w.cell? p = some (.slice A n c)) (hJ : Ints w A n c J) (hl : Ints w B m d l) (h : ∀ v ∈ l, v ∈ J) :
    Calls Try.prog 17 #[.slice B m d, .func (.func 18) #[] #[.pointer (some p)]] w fun e w' => e = .returned (.bool false) ∧ Ext w w' := by
  have HC := Lib.hid (indexN_ok hp hJ hl h)
  clear h hJ hl
  go_enter Try.func17, Try.ntmps17
  go_wp2_with fail
  refine HC.out.mono ?_
  rintro e w1 ⟨rfl, he⟩
  clear HC
  go_wp2_with fail
  go_ret
  exact ⟨rfl, he⟩

set_option maxRecDepth 100000 in
set_option maxHeartbeats 8000000 in
theorem seekJoins_walk {p s t : List Int} {A B D : Option Addr} {n m q c d f : Nat} {w : World} (hp : Ints w A n c p) (hs : Ints w B m d s) (ht : Ints w D q f t) (hB : B = none → d = 0) (hD : D = none → f = 0) (zs : m * 8 ≤ 140737488351232) (zt : q * 8 ≤ 140737488351232) :
    Calls Try.prog 6 #[.slice A n c, .slice B m d, .slice D q f] w fun e w' => e = .returned (.bool true) ∧ Ext w w' := by
  obtain ⟨i0, hi, hz0, hz1, hz2⟩ := info_parts info_int
  have hpl := Lib.hid hp.len
  have hsl := Lib.hid hs.len
  have htl := Lib.hid ht.len
  have ZS := Lib.hid zs
  have ZT := Lib.hid zt
  have HP := Lib.hid hp
  have HS := Lib.hid hs
  have HT := Lib.hid ht
  have HB := Lib.hid hB
  have HD := Lib.hid hD
  have hnc := hp.ncap
  have hcm := hp.nmax
  have hmc := hs.ncap
  have hdm := hs.nmax
  have hqc := ht.ncap
  have hfm := ht.nmax
  unfold maxLen at hcm hdm hfm
  clear hp hs ht hB hD zs zt
  go_enter Try.func6, Try.ntmps6
  go_wp2_with fail
  refine (of_ok _ _ (by decide)).mono ?_
  rintro e w1 ⟨A1, c1, rfl, ho1, he1⟩
  go_wp2_with fail
  refine (of_ok _ _ (by decide)).mono ?_
  rintro e w2 ⟨A2, c2, rfl, ho2, he2⟩
  go_wp2_with fail
  refine (all_ok (ho1.ints.ext he2) ho2.ints (by decide) (by decide)).mono ?_
  rintro e w3 ⟨C1, n1, d1, rfl, ho3, he3⟩
  have hn2 : n1 = 2 := by rw [← ho3.ints.len, sj_lit]
  subst hn2
  have hx3 := (he1.trans he2).trans he3
  clear ho1 ho2 ho3 he1 he2 he3
  go_wp2_with fail
  refine (concat_big (Rd.litAt w3 _ [.slice B m d, .slice D q f] rfl rfl (Nat.le_of_ble_eq_true rfl)) (ListsN.two (HS.out.ext (hx3.trans (Ext.alloc _ _))) HB.out (HT.out.ext (hx3.trans (Ext.alloc _ _))) HD.out) rfl (by simp; rw [hsl.out, htl.out]; have := ZS.out; have := ZT.out; omega)).mono ?_
  rintro e w4 ⟨E, r, g, rfl, hE, he4⟩
  have hx4 := hx3.trans ((Ext.alloc _ _).trans he4)
  have hEl := Lib.hid hE.ints.len
  have HE := Lib.hid hE.ints
  rw [show ([s, t] : List (List Int)).flatten = s ++ t by simp] at hEl HE
  have hrr : r = m + q := by rw [← hEl.out, List.length_append, hsl.out, htl.out]
  subst hrr
  clear hx3 he4 hE
  by_cases hbig : 4096 < n ∨ 4096 < m + q
  · have HL := Lib.hid (all_large (HP.out.ext hx4) HE.out hbig)
    clear hbig
    go_wp2_with fail
    refine HL.out.mono ?_
    rintro e w5 ⟨rfl, he5⟩
    have hx5 := hx4.trans (he5.trans (Ext.alloc w5 (.cells #[.slice none 0 0] 22)))
    have HL1 := Lib.hid (all_any (HP.out.ext hx5) (HS.out.ext hx5))
    clear HL hx4 he5
    go_wp2_with fail
    refine HL1.out.mono ?_
    rintro e w6 ⟨⟨C6, n6, c6, k6, rfl⟩, he6⟩
    have hx6 := hx5.trans he6
    have HL2 := Lib.hid (all_any (HP.out.ext hx6) (HT.out.ext hx6))
    clear HL1 hx5 he6
    go_wp2_with fail
    refine HL2.out.mono ?_
    rintro e w7 ⟨⟨C7, n7, c7, k7, rfl⟩, he7⟩
    have hx7 := hx6.trans he7
    clear HL2 hx6 he7
    go_wp2_with fail
    go_ret
    exact ⟨rfl, hx7⟩
  · have hn4 : n ≤ 4096 := by omega
    have hmq : m + q ≤ 4096 := by omega
    have HL := Lib.hid (all_ok (HP.out.ext hx4) HE.out hn4 hmq)
    clear hbig
    go_wp2_with fail
    refine HL.out.mono ?_
    rintro e w5 ⟨C5, n5, c5, rfl, ho5, he5⟩
    have hx5 := hx4.trans (he5.trans (Ext.alloc w5 (.cells #[.slice C5 n5 c5] 22)))
    have HJ := Lib.hid (ho5.ints.ext (Ext.alloc w5 (.cells #[.slice C5 n5 c5] 22)))
    have hb9 := Blk.new w5 22 #[.slice C5 n5 c5]
    have HL1 := Lib.hid (all_ok (HP.out.ext hx5) (HS.out.ext hx5) hn4 (by omega))
    clear HL hx4 he5 ho5 HE
    revert hx5 HJ hb9 HL1
    generalize hwx : w5.alloc (.cells #[.slice C5 n5 c5] 22) = wx
    intro hx5 HJ hb9 HL1
    go_wp2_with fail
    refine HL1.out.mono ?_
    rintro e w6 ⟨C6, n6, c6, rfl, ho6, he6⟩
    have hx6 := hx5.trans he6
    have HL2 := Lib.hid (all_ok (HP.out.ext hx6) (HT.out.ext hx6) hn4 (show q ≤ 4096 by omega))
    clear HL1
    go_wp2_with fail
    refine HL2.out.mono ?_
    rintro e w7 ⟨C7, n7, c7, rfl, ho7, he7⟩
    have hx7 := hx6.trans he7
    have e57 := he6.trans he7
    have HJ7 := Lib.hid (HJ.out.ext e57)
    have hb7 := hb9.ext e57
    have ho67 := ho6.ext he7
    have k9 := hb7.cell 0
    simp only [List.getElem?_toArray, List.getElem?_cons_zero] at k9
    have HPRE0 := Lib.hid hx5
    have HAP := Lib.hid (apart_of ho6 ho7 (Nat.le_refl _)).2
    have HXX := Lib.hid e57
    clear HL2 hx5 hx6 he6 hb7 e57 ho6
    rcases Nat.eq_zero_or_pos n with h0 | h0
    · subst h0
      go_wp2_with fail
      go_ret
      exact ⟨rfl, hx7⟩
    have hn0 : ((n : Int) == 0) = false := by simp; omega
    have HPOS : Hid (0 < p.length) := Lib.hid (by rw [hpl.out]; exact h0)
    have hJl := Lib.hid HJ7.out.len
    have hLl := Lib.hid ho67.ints.len
    have hRl := Lib.hid ho7.ints.len
    have hn5 : n5 ≤ 8193 := by
      have h1 : (allP p (s ++ t)).length ≤ (s ++ t).length + 1 := by unfold allP; exact posl_len _ _ _
      rw [hJl.out, hEl.out] at h1; omega
    have hn6 : n6 ≤ 4097 := by
      have h1 : (allP p s).length ≤ s.length + 1 := by unfold allP; exact posl_len _ _ _
      rw [hLl.out, hsl.out] at h1; omega
    have hn7 : n7 ≤ 4097 := by
      have h1 : (allP p t).length ≤ t.length + 1 := by unfold allP; exact posl_len _ _ _
      rw [hRl.out, htl.out] at h1; omega
    have HL6 := Lib.hid ho67.ints
    have HR7 := Lib.hid ho7.ints
    go_wp2_with fail
    go_loopw [70] (fun v wr => ∃ k : Nat, k ≤ n5 ∧ v = .int .i64 k ∧ Ext w7 wr) (fun v _ => n5 - (intOf v).toNat)
    case atStart => exact ⟨0, by omega, rfl, Ext.refl _⟩
    case round =>
      obtain ⟨k, hk, rfl, he⟩ := hrel
      by_cases hlt : k < n5
      · obtain ⟨ad, rfl, hc⟩ := HJ7.out.at_ hlt
        have c5 := he.cell (hc k hlt)
        have hbd := allP_bd (p := p) (s := s ++ t) (k := k) (by rw [hJl.out]; exact hlt)
        rw [hEl.out, hpl.out] at hbd
        have HM : Hid (gI (allP p (s ++ t)) k ∈ allP p (s ++ t)) := Lib.hid (mem_gI (by rw [hJl.out]; exact hlt))
        clear hc
        generalize gI (allP p (s ++ t)) k = z at *
        by_cases h1 : z + (n : Int) ≤ m
        · have HC := Lib.hid (contains_yes (v := z) (HL6.out.ext he) (join_left HM.out (by rw [hpl.out, hsl.out]; exact h1)))
          clear HM
          go_wp2_with fail
          refine HC.out.mono ?_
          rintro e w8 ⟨rfl, he8⟩
          clear HC
          go_wp2_with fail
          go_roundw
          case rel => exact ⟨k + 1, by omega, by go_num, he.trans he8⟩
          case measure => simp [intOf]; omega
        · by_cases h2 : (m : Int) ≤ z
          · have HC := Lib.hid (contains_yes (v := z - m) (HR7.out.ext he) (by have := join_right HM.out (by rw [hsl.out]; exact h2); rw [hsl.out] at this; exact this))
            clear HM
            go_wp2_with fail
            refine HC.out.mono ?_
            rintro e w8 ⟨rfl, he8⟩
            clear HC
            go_wp2_with fail
            go_roundw
            case rel => exact ⟨k + 1, by omega, by go_num, he.trans he8⟩
            case measure => simp [intOf]; omega
          · clear HM
            go_wp2_with fail
            go_roundw
            case rel => exact ⟨k + 1, by omega, by go_num, he⟩
            case measure => simp [intOf]; omega
      · obtain rfl : k = n5 := by omega
        go_wp2_with fail
        have HX := Lib.hid (HXX.out.trans he)
        have HR1 := Lib.hid (ho7.ext he)
        have hL1 := ho67.ext he
        have HXW := Lib.hid (hx7.trans he)
        have HPRE : Hid (Ext w wx) := Lib.hid HPRE0.out
        clear he hx7 he7 ho67 ho7 HXX HL6 HR7 k9
        go_loopw [11, 101] (fun v i wz => ∃ (k : Nat) (C : Option Addr) (cc : Nat), k ≤ n7 ∧ i = .int .i64 k ∧ v = .slice C (n6 + k) cc ∧ OwnI wz wx.heap.size C (n6 + k) cc (allP p s ++ ((allP p t).take k).map fun x => x + (m : Int)) ∧ OwnI wz w6.heap.size C7 n7 c7 (allP p t) ∧ Apart C7 n7 c7 C (n6 + k) cc ∧ Ext wx wz) (fun _ i _ => n7 - (intOf i).toNat)
        case atStart => exact ⟨0, C6, c6, by omega, rfl, rfl, by simpa using hL1, HR1.out, HAP.out, HX.out⟩
        case round =>
          clear hL1
          obtain ⟨k, C, cc, hk, rfl, rfl, hown, hR, hap, he⟩ := hrel
          by_cases hlt : k < n7
          · have hRi := hR.ints
            obtain ⟨ad, rfl, hc⟩ := hRi.at_ hlt
            have cz := hc k hlt
            have hbd := allP_bd (p := p) (s := t) (k := k) (by rw [hRl.out]; exact hlt)
            rw [htl.out] at hbd
            have HSU : Hid ((allP p t).take (k + 1) = (allP p t).take k ++ [gI (allP p t) k]) := Lib.hid (by
              rw [List.take_succ_eq_append_getElem (by rw [hRl.out]; exact hlt)]
              simp [gI, show k < (allP p t).length by rw [hRl.out]; exact hlt])
            clear hc hRi
            generalize gI (allP p t) k = z at *
            have HRR := Lib.hid hR
            have HPP := Lib.hid hap
            clear hR hap
            go_wp2_with (at_builtin; refine wpList_push rfl (.tmp 105) (.tmp 110) 22 rfl wx wx.heap.size 3 i0 (.int .i64 0) 1 8 Try.underlying22 hi hz0 hz1 hz2 rfl (by decide) C (n6 + k) cc _ rfl hown _ rfl ?_ rfl ?_ ?_ he (Nat.le_refl _) he.hsize ?_)
            · rfl
            · unfold maxLen; omega
            · omega
            · intro C2 cc2 wn hown' hg hsame he'
              have hown2 : OwnI wn wx.heap.size C2 (n6 + (k + 1)) cc2 (allP p s ++ ((allP p t).take (k + 1)).map fun x => x + (m : Int)) := by
                rw [HSU.out, List.map_append, ← List.append_assoc, ← Nat.add_assoc]
                simpa [OwnI] using hown'
              have hR2 : OwnI wn w6.heap.size (some ad) n7 c7 (allP p t) := Own.kept HRR.out hg HPP.out
              have hap2 : Apart (some ad) n7 c7 C2 (n6 + (k + 1)) cc2 := by
                rcases hsame with h1 | ⟨g, h1, h2⟩
                · have h3 := HPP.out
                  unfold Apart at h3 ⊢
                  rw [show (Value.slice C2 (n6 + (k + 1)) cc2) = Value.slice C2 (n6 + k + 1) cc2 from rfl, h1]
                  exact h3
                · unfold Apart
                  rw [show (Value.slice C2 (n6 + (k + 1)) cc2) = Value.slice C2 (n6 + k + 1) cc2 from rfl, h2]
                  rcases hq : (Value.slice (some ad) n7 c7).ownBlock with _ | g2
                  · exact .inl rfl
                  · right
                    intro e
                    have := (Own.blk HRR.out g2 hq).2
                    cases e
                    omega
              clear hown hown' he hg hsame HRR HPP
              go_wp2_with fail
              go_roundw
              case rel => exact ⟨k + 1, C2, cc2, by omega, by go_num, rfl, hown2, hR2, hap2, he'⟩
              case measure => simp [intOf]; omega
          · obtain rfl : k = n7 := by omega
            have hT := hown.ints
            rw [List.take_of_length_le (by rw [hRl.out]; exact Nat.le_refl _)] at hT
            have c9 := (hb9.ext he).cell 0
            simp only [List.getElem?_toArray, List.getElem?_cons_zero] at c9
            have HC := Lib.hid (containsN_ok c9 (HJ.out.ext he) hT (fun v hv => by
              rcases List.mem_append.1 hv with h1 | h1
              · exact of_left HPOS.out h1
              · obtain ⟨x, hx, rfl⟩ := List.mem_map.1 h1
                have := of_right (s := s) HPOS.out hx
                rw [hsl.out] at this
                exact this))
            clear hown hR hap hT
            go_wp2_with fail
            refine HC.out.mono ?_
            rintro e w9 ⟨rfl, he9⟩
            clear HC
            go_wp2_with fail
            go_ret
            exact ⟨rfl, HPRE.out.trans (he.trans he9)⟩
end Go.Proofs.Ytgpagfbmbnlcpaa
