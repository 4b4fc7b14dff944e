/-
  A machine for words.
-/
import Derived.Test.YtdkjkcegchohfaaAbL
import Derived.Test.YtdkjkcegchohfaaLitL
namespace Go.Proofs.Ytdkjkcegchohfaa
open Go.RowKit Go.Maps
set_option linter.unusedVariables false
set_option linter.unusedSimpArgs false
attribute [local go_sem] Oper.semAt_some

def WfA (ls : List (List Int)) : Prop := ∀ i, i < ls.length → ∀ y ∈ gL ls i, (Lit.int .i64 y).wf = true
def GoodA (ls : List (List Int)) : Prop := ls.length ≤ 100 ∧ ∀ i, i < ls.length → 1 ≤ (gL ls i).length ∧ (gL ls i).length ≤ 24
def szs (ls : List (List Int)) : List Int := ls.map fun l => (l.length : Int)
/-- The machine of some words, its pointer's block. -/
structure AbDone (w : World) (b0 : Nat) (ls : List (List Int)) (t : AC) (x : AbA) : Prop where
  ok : t.Ok ls
  good : GoodA ls
  mem : ∃ K, AbIs w b0 K t (szs ls) x
  falls : ∀ i, i < t.N → i ≠ 0 → FallAt t x.fall i
theorem AbDone.ext {w w' : World} {b0 : Nat} {ls : List (List Int)} {t : AC} {x : AbA} (h : AbDone w b0 ls t x) (he : Ext w w') : AbDone w' b0 ls t x := ⟨h.ok, h.good, h.mem.imp fun K hk => hk.ext he, h.falls⟩
def abW (w : World) : World := ((w.alloc (.map #[] 0)).alloc (.cells #[.map (some w.heap.size), .int .i64 0, .slice none 0 0] 72)).alloc (.cells #[.slice (some ⟨w.heap.size + 1, 0, none⟩) 1 1, .slice none 0 0] 75)
def abX (s : Nat) : AbA := ⟨s + 2, s + 1, 1, none, 0, 0, fun _ => ⟨s, none, 0, 0⟩, fun _ => 0⟩
theorem ab_start (w : World) : AbIs (abW w) w.heap.size 0 AC.one [] (abX w.heap.size) := by
  have e1 := Ext.alloc w (.map #[] 0)
  have s1 : (w.alloc (.map #[] 0)).heap.size = w.heap.size + 1 := by simp
  have e2 := Ext.alloc (w.alloc (.map #[] 0)) (.cells #[.map (some w.heap.size), .int .i64 0, .slice none 0 0] 72)
  have s2 : ((w.alloc (.map #[] 0)).alloc (.cells #[.map (some w.heap.size), .int .i64 0, .slice none 0 0] 72)).heap.size = w.heap.size + 2 := by simp
  have e3 := Ext.alloc ((w.alloc (.map #[] 0)).alloc (.cells #[.map (some w.heap.size), .int .i64 0, .slice none 0 0] 72)) (.cells #[.slice (some ⟨w.heap.size + 1, 0, none⟩) 1 1, .slice none 0 0] 75)
  have b3 : Blk (abW w) (w.heap.size + 2) 75 #[.slice (some ⟨w.heap.size + 1, 0, none⟩) 1 1, .slice none 0 0] := by
    have := Blk.new ((w.alloc (.map #[] 0)).alloc (.cells #[.map (some w.heap.size), .int .i64 0, .slice none 0 0] 72)) 75 #[.slice (some ⟨w.heap.size + 1, 0, none⟩) 1 1, .slice none 0 0]
    rw [s2] at this; exact this
  have r3 : Own (abW w) w.heap.size 72 3 (some ⟨w.heap.size + 1, 0, none⟩) 1 1 [.map (some w.heap.size), .int .i64 0, .slice none 0 0] := by
    have h := World.ownsRow_lit (base := w.heap.size) (e := 72) (size := 3) (w.alloc (.map #[] 0)) #[.map (some w.heap.size), .int .i64 0, .slice none 0 0] 1 (by rw [s1]; omega) (by unfold maxLen; omega) rfl
    rw [s1] at h
    exact Own.ext h e3
  have hnx : nxF AC.one 0 = fun _ => none := rfl
  refine ⟨by decide, by decide, by omega, by show _ ≤ w.heap.size + 2; omega, b3, r3, OwnI.nil _ _, fun i hi => Nat.le_refl _, fun i hi => ?_, fun i hi => OwnI.nil _ _, fun i j hi hj _ => ?_, fun i j k hi hj e => ?_, fun i k hi e => ?_⟩
  · obtain rfl : i = 0 := by have : i < 1 := hi; omega
    rw [hnx]
    exact ((MapO.made w).ext e2).ext e3
  · have : i < 1 := hi
    have : j < 1 := hj
    omega
  · cases e
  · cases e

theorem keys_one : KeysWf AC.one := fun p d j hq => by cases (show (none : Option Nat) = some j from hq)
theorem szs_app (a b : List (List Int)) : szs (a ++ b) = szs a ++ szs b := by simp [szs]
set_option maxRecDepth 20000 in
set_option maxHeartbeats 2000000 in
theorem abNew_ok {A : Option Addr} {n c : Nat} {ls : List (List Int)} {w : World} (hl : Lns w A n c ls) (hwf : WfA ls) :
    Calls Try.prog 9 #[.slice A n c] w fun e w' => Ext w w' ∧ ((¬ GoodA ls ∧ ∃ z : Int, z ≠ 0 ∧ e = .returned (.tuple #[.pointer none, .int .i64 z])) ∨
      (GoodA ls ∧ ∃ t x, AbDone w' w.heap.size ls t x ∧ e = .returned (.tuple #[.pointer (some ⟨x.g, 0, none⟩), .int .i64 0]))) := by
  obtain ⟨j0, hj0, hy0, hy1, hy2⟩ := info_parts info_int
  have hmm := @run_makeMap Try.prog
  have HN := Lib.hid hl.len
  have HL := Lib.hid hl
  have HWF := Lib.hid hwf
  have hnc := hl.ncap
  have hcm := hl.nmax
  unfold maxLen at hcm
  have HS := Lib.hid (ab_start w)
  clear hl hwf
  go_enter Try.func9, Try.ntmps9
  by_cases hbig : 100 < n
  · go_wp2_with fail
    go_ret2
    exact ⟨Ext.refl _, .inl ⟨fun hg => by have := hg.1; have := HN.out; omega, 2, by decide, rfl⟩⟩
  · have hn1 : n ≤ 100 := by omega
    go_upto_region 4 with fail
    have hE1 : Hid (Ext w (abW w)) := Lib.hid (((Ext.alloc _ _).trans (Ext.alloc _ _)).trans (Ext.alloc _ _))
    obtain ⟨w1, hw1⟩ : ∃ w1, w1 = abW w := ⟨_, rfl⟩
    rw [show (((w.alloc (Obj.map #[] 0)).alloc (Obj.cells #[Value.map (some w.heap.size), Value.int IntKind.i64 0, Value.slice none 0 0] 72)).alloc (Obj.cells #[Value.slice (some { block := w.heap.size + 1, off := 0 }) 1 1, Value.slice none 0 0] 75)) = w1 from hw1.symm]
    rw [← hw1] at HS hE1
    obtain ⟨gm, hgm⟩ : ∃ gm, gm = w.heap.size + 1 + 1 := ⟨_, rfl⟩
    rw [← hgm]
    have hg0 : (abX w.heap.size).g = gm := hgm.symm
    clear hw1 hgm hbig
    go_wp2_with fail
    go_loopw [17] (fun v wr => ∃ (k : Nat) (t : AC) (x : AbA), k ≤ n ∧ v = .int .i64 k ∧ x.g = gm ∧ t.N ≤ 1 + 24 * k ∧ Hid (AbIs wr w.heap.size (24 * k) t (szs (ls.take k)) x) ∧ Hid (t.Ok (ls.take k) ∧ FallZ t x ∧ KeysWf t ∧ ∀ i, i < k → 1 ≤ (gL ls i).length ∧ (gL ls i).length ≤ 24) ∧ Hid (Ext w wr)) (fun v _ => n + 1 - (intOf v).toNat)
    case atStart => exact ⟨0, AC.one, abX w.heap.size, Nat.zero_le _, rfl, hg0, by decide, HS, Lib.hid ⟨AC.one_ok, fun i _ => rfl, keys_one, fun i hi => by omega⟩, hE1⟩
    case round =>
      clear HS hE1
      obtain ⟨k, t, x, hk, rfl, hg, htN, HA, HT, HE⟩ := hrel
      by_cases hlt : k < n
      · obtain ⟨ad, v, rfl, hc, B, m, d, rfl, hi, hBd, hm8⟩ := HL.out.at_ hlt
        have c1 := HE.out.cell hc
        have hml : (gL ls k).length = m := hi.len
        by_cases hbad : 1 ≤ m ∧ m ≤ 24
        · obtain ⟨hb1, hb2⟩ := hbad
          have hlk : (ls.take k).length = k := by have := HN.out; simp; omega
          have HP := Lib.hid (abPut_ok HT.out.1 HA.out HT.out.2.1 HT.out.2.2.1 hi (HWF.out k (by rw [HN.out]; exact hlt)) hb2 (by omega) (by omega) (by omega) hlk HE.out)
          rw [hg] at HP
          have HML := Lib.hid hml
          clear hi hc hml HA
          go_wp2_with fail
          refine HP.out.mono ?_
          rintro e w2 ⟨rfl, t', x', p, hO, hp, hsp, hA2, hg2, hz2, hN2, hx2, hk2⟩
          have hsz := hA2.siz
          have c12 := hA2.c1
          have c02 := hA2.c0
          have hszl := hsz.ints.len
          have hszn : x'.Sn ≤ 100 := by
            have h1 : (szs (ls.take k)).length = k := by simp [szs]; have := HN.out; omega
            omega
          rw [hg2] at c12 c02
          have hg3 : x'.g = gm := hg2
          have HA2 := Lib.hid hA2
          have HX2 := Lib.hid hx2
          have hHs := hx2.hsize
          have hB2 := hA2.blk
          rw [hg3] at hB2
          have hSg : Hid (∀ w5, w2.grownBy w5 (Value.slice x'.S x'.Sn x'.Sc).ownBlock → Blk w5 gm 75 #[.slice (some ⟨x'.r, 0, none⟩) (t'.endAt p k).N x'.c, .slice x'.S x'.Sn x'.Sc]) := Lib.hid (fun w5 h5 => hB2.grown h5 (fun e => by
            have h1 := Own.ty hA2.siz e.symm
            rw [hB2.ty] at h1
            revert h1; decide))
          have HR := Lib.hid (⟨hO, hp, hsp, hz2, hN2, hk2⟩ : _ ∧ _ ∧ _ ∧ _ ∧ _ ∧ _)
          clear hO hp hsp hA2 hg2 hz2 hN2 hk2 hszl HP hB2
          go_wp2_with (at_builtin; refine wpList_push rfl (.tmp 38) (.tmp 41) 23 rfl w w.heap.size 3 j0 _ 1 8 Try.underlying23 hj0 hy0 hy1 hy2 rfl (by decide) _ _ _ _ rfl hsz #[.int .i64 m] rfl (by simp [Value.oneCell']) rfl (by unfold maxLen; omega) (by omega) hx2 (Nat.le_refl _) hHs ?_; intro S2 d2 w5 k1 k2 k3 k4; have y0 := hSg.out w5 k2; have y1 : w5.cell? ⟨gm, 1, none⟩ = some (.slice x'.S x'.Sn x'.Sc) := (by rw [y0.cell 1]; rfl); have y2 := y0.frozen 1)
          go_roundw
          case rel =>
            have hlk2 : ls.take (k + 1) = ls.take k ++ [gL ls k] := by rw [take_gL (by rw [HN.out]; exact hlt)]
            have hEq := (Eqv.grown (N := gm :: (Value.slice x'.S x'.Sn x'.Sc).ownBlock.toList) k2 (fun j hj => by simp [hj])).trans (Eqv.setCell (N := gm :: (Value.slice x'.S x'.Sn x'.Sc).ownBlock.toList) w5 ⟨gm, 1, none⟩ (.slice S2 (x'.Sn + 1) d2) (by simp))
            have hb5 : Blk (w5.setCell ⟨gm, 1, none⟩ (.slice S2 (x'.Sn + 1) d2)) gm 75 #[.slice (some ⟨x'.r, 0, none⟩) (t'.endAt p k).N x'.c, .slice S2 (x'.Sn + 1) d2] := by
              have := (hSg.out w5 k2).set_ 1 (.slice S2 (x'.Sn + 1) d2)
              simpa using this
            have hS5 : OwnI (w5.setCell ⟨gm, 1, none⟩ (.slice S2 (x'.Sn + 1) d2)) w.heap.size S2 (x'.Sn + 1) d2 (szs (ls.take k) ++ [(m : Int)]) := by
              refine Own.eqv (by rw [List.map_append]; exact k1) (Eqv.setCell (N := [gm]) _ _ _ (by simp)) (fun j hj hm => ?_)
              have h1 := Own.ty k1 hj
              rw [List.mem_singleton.1 hm, (hSg.out w5 k2).ty] at h1
              revert h1; decide
            have hF := AbIs.sized HA2.out hS5 (by rw [hg3]; exact hb5) (fun j hj => by
              rcases k3 with k3 | ⟨q, h1, k3⟩
              · exact .inl (by rw [← hj, k3])
              · rw [k3] at hj; injection hj with hj; exact .inr (by omega)) hEq (fun j hj => by
                rcases List.mem_cons.1 hj with e | e
                · exact .inl (by rw [hg3]; exact e)
                · right
                  cases ho : (Value.slice x'.S x'.Sn x'.Sc).ownBlock with
                  | none => rw [ho] at e; simp at e
                  | some b => rw [ho] at e; simp at e; rw [e])
            have hO2 := HR.out.1.endAt HR.out.2.1 HR.out.2.2.1
            rw [hlk, ← hlk2] at hO2
            have hsz2 : szs (ls.take (k + 1)) = szs (ls.take k) ++ [(m : Int)] := by rw [hlk2, szs_app]; simp [szs, HML.out]
            refine ⟨k + 1, t'.endAt p k, { x' with S := S2, Sn := x'.Sn + 1, Sc := d2 }, by omega, by go_num, hg3, ?_, Lib.hid ?_, Lib.hid ⟨hO2, fun i hi => HR.out.2.2.2.1 i hi, fun q y j hq => HR.out.2.2.2.2.2 q y j hq, fun i hi => ?_⟩, Lib.hid (Ext.setCell k4 (p := ⟨gm, 1, none⟩) (by have := HA2.out.g0; rw [hg3] at this; exact this) _)⟩
            · have h1 := HR.out.2.2.2.2.1
              have h2 : (t'.endAt p k).N = t'.N := rfl
              omega
            · rw [hsz2]
              exact ⟨hF.pos, hF.max, by omega, hF.g0, hF.blk, hF.row, hF.siz, hF.m0, fun i hi => (hF.map i hi).mono (by omega), hF.ends, hF.minj, hF.einj, hF.esiz⟩
            · by_cases e : i = k
              · subst e; rw [HML.out]; exact ⟨hb1, hb2⟩
              · exact HT.out.2.2.2 i (by omega)
          case measure => simp [intOf]; omega
        · have HBAD := Lib.hid hbad
          have hbd : (decide ((m : Int) < 1) || decide (24 < (m : Int))) = true := by simp; omega
          have HML := Lib.hid hml
          clear hi hc hml HA hbad
          go_wp2_with fail
          all_goals
            go_ret2
            exact ⟨HE.out, .inl ⟨fun hgd => HBAD.out (by have := hgd.2 k (by rw [HN.out]; exact hlt); rw [HML.out] at this; exact this), 1, by decide, rfl⟩⟩
      · obtain rfl : k = n := by omega
        have hlk : ls.take k = ls := List.take_of_length_le (by rw [HN.out]; exact Nat.le_refl _)
        rw [hlk] at HA HT
        have HLK := Lib.hid (abLink_ok HT.out.1 HA.out HT.out.2.1 HT.out.2.2.1 HE.out)
        rw [hg] at HLK
        go_wp2_with fail
        refine HLK.out.mono ?_
        rintro e w2 ⟨rfl, x', hA2, hg2, hF2, hx2⟩
        have HD : Hid (AbDone w2 w.heap.size ls t x') := Lib.hid ⟨HT.out.1, ⟨by rw [HN.out]; exact hn1, fun i hi => HT.out.2.2.2 i (by rw [HN.out] at hi; exact hi)⟩, ⟨_, hA2⟩, hF2⟩
        clear hA2 hF2
        go_wp2_with fail
        go_ret2
        exact ⟨hx2, .inr ⟨HD.out.good, t, x', HD.out, by rw [hg2]; rfl⟩⟩
end Go.Proofs.Ytdkjkcegchohfaa
