/-
  paint.Signs of two rows of one width: the walk.
-/
import Derived.Test.YthphlghblmindaaPaiS
namespace Go.Proofs.Ythphlghblmindaa
open Go.RowKit
set_option linter.unusedVariables false
set_option linter.unusedSimpArgs false

theorem cells2J {w : World} {g t : Nat} {u v : Value} (h : Blk w g t #[u, v]) : w.cell? ⟨g, 0, none⟩ = some u ∧ w.cell? ⟨g, 1, none⟩ = some v := ⟨h.cell 0, h.cell 1⟩
/-- Lists in rows of the call's own, one behind the other. -/
def ListO (w : World) (base g : Nat) (ws : List (List Int)) : Prop := ∀ i, i < ws.length → ∃ S q r, w.cell? ⟨g, i, none⟩ = some (.slice S q r) ∧ OwnI w base S q r (ws[i]?.getD [])
theorem ListO.one {w : World} {base g t q r : Nat} {S : Option Addr} {l : List Int} (h : Blk w g t #[.slice S q r]) (ho : OwnI w base S q r l) : ListO w base g [l] := fun i hi => by
  obtain rfl : i = 0 := by simp at hi; omega
  exact ⟨S, q, r, h.cell 0, ho⟩
theorem ListO.two {w : World} {base g t q r q' r' : Nat} {S S' : Option Addr} {l l' : List Int} (h : Blk w g t #[.slice S q r, .slice S' q' r']) (ho : OwnI w base S q r l) (ho' : OwnI w base S' q' r' l') : ListO w base g [l, l'] := fun i hi => by
  have : i = 0 ∨ i = 1 := by simp at hi; omega
  rcases this with rfl | rfl
  · exact ⟨S, q, r, h.cell 0, ho⟩
  · exact ⟨S', q', r', h.cell 1, ho'⟩
theorem JAt.own {w : World} {g m d : Nat} {B : Option Addr} {j : Nat × List Int} (h : JAt w g B m d j) : ∃ S q r, w.cell? ⟨g, 2, none⟩ = some (.slice S q r) ∧ OwnI w (g + 1) S q r j.2 :=
  let ⟨S, q, r, h1, h2⟩ := h; ⟨S, q, r, h1.cell 2, h2⟩
theorem bestOf_snoc (x : List Int) (ws : List (List Int)) (v : List Int) : bestOf x (ws ++ [v]) = better (bestOf x ws) v := by unfold bestOf; rw [List.foldl_append]; rfl
theorem take_snocL {ws : List (List Int)} {i : Nat} (h : i < ws.length) : ws.take (i + 1) = ws.take i ++ [ws[i]?.getD []] := by
  rw [List.take_succ_eq_append_getElem h]; simp [h]

set_option maxRecDepth 100000 in
set_option maxHeartbeats 16000000 in
theorem signs_ok {A B : Option Addr} {n c m d st at_ : Nat} {a b : List Int} {w : World} (ha : Ints w A n c a) (hb : Ints w B m d b) (hB : B = none → d = 0) (ga : rowOk a n st) (gb : rowOk b m at_) (hnm : n = m) :
    Calls Try.prog 14 #[.agg #[.slice A n c, .int .i64 st], .agg #[.slice B m d, .int .i64 at_]] w (SigIs w (signsF a st b at_)) := by
  subst hnm
  have hx0 : Ext w ((w.alloc (.cells #[.slice A n c, .int .i64 st] 34)).alloc (.cells #[.slice B n d, .int .i64 at_] 34)) := (Ext.alloc _ _).to_alloc _
  have b2 := (Blk.new w 34 #[.slice A n c, .int .i64 st]).ext (Ext.alloc _ (.cells #[.slice B n d, .int .i64 at_] 34))
  have b3 := Blk.new (w.alloc (.cells #[.slice A n c, .int .i64 st] 34)) 34 #[.slice B n d, .int .i64 at_]
  rw [World.size_alloc] at b3
  have HX := Lib.hid hx0
  have HA := Lib.hid (ha.ext hx0)
  have HB := Lib.hid (hb.ext hx0)
  have hnc := ha.ncap
  have hcm := ha.nmax
  have hmd := hb.ncap
  have hdm := hb.nmax
  unfold maxLen at hcm hdm
  have hbl := Lib.hid hb.len
  have HBN := Lib.hid hB
  have hn1 := ga.1
  have hn2 := ga.2.1
  have hst : st ≤ n := by have := ga.2.2.2.1; omega
  have hat : at_ ≤ n := by have := gb.2.2.2.1; omega
  have G1 := Lib.hid ga
  have G2 := Lib.hid gb
  have hnn : ((n : Int) != (n : Int)) = false := by simp
  obtain ⟨S1, S2, S3, _, _⟩ := dif_spec a b (Nat.zero_le n)
  have HS : Hid (signsF a st b at_ = if difL a b 0 n < difH a b 0 n then (if difL a b (fulF b n) n < difH a b (fulF b n) n then bestP b st at_ (difL a b 0 (fulF b n)) (difH a b 0 (fulF b n)) (difL a b (fulF b n) n + 1 - fulF b n) (fulF b n) (toJ b (overJ b (st, []) (difL a b 0 n) (difH a b 0 n)) at_).2 else (toJ b (overJ b (st, []) (difL a b 0 n) (difH a b 0 n)) at_).2) else (toJ b (st, []) at_).2) := Lib.hid (by
    unfold signsF
    rw [hbl.out])
  have hall := And.intro b2 (And.intro b3 (And.intro HX (And.intro HA HB)))
  clear hx0 b2 b3 HX HA HB ha hb ga gb hB
  go_enter Try.func14, Try.ntmps14
  go_upto_region 1 with fail
  revert hall
  generalize (w.alloc (.cells #[.slice A n c, .int .i64 st] 34)).alloc (.cells #[.slice B n d, .int .i64 at_] 34) = W
  obtain ⟨p2, hp2⟩ : ∃ p2, w.heap.size = p2 := ⟨_, rfl⟩
  obtain ⟨p3, hp3⟩ : ∃ p3, w.heap.size + 1 = p3 := ⟨_, rfl⟩
  rw [hp3, hp2]
  have HP := Lib.hid (And.intro hp2 hp3)
  clear hp2 hp3
  rintro ⟨b2, b3, HX, HA, HB⟩
  obtain ⟨k20, k21⟩ := cells2J b2
  obtain ⟨k30, k31⟩ := cells2J b3
  have K20 : Hid (∀ wq, Ext W wq → wq.cell? ⟨p2, 0, none⟩ = some (.slice A n c)) := Lib.hid fun wq h => h.cell k20
  have K21 : Hid (∀ wq, Ext W wq → wq.cell? ⟨p2, 1, none⟩ = some (.int .i64 st)) := Lib.hid fun wq h => h.cell k21
  have K30 : Hid (∀ wq, Ext W wq → wq.cell? ⟨p3, 0, none⟩ = some (.slice B n d)) := Lib.hid fun wq h => h.cell k30
  have K31 : Hid (∀ wq, Ext W wq → wq.cell? ⟨p3, 1, none⟩ = some (.int .i64 at_)) := Lib.hid fun wq h => h.cell k31
  have HSZ : Hid (w.heap.size ≤ W.heap.size) := Lib.hid HX.out.hsize
  have HC1 := Lib.hid (check_ok HA.out G1.out.2.2.2.2 G1.out.1 G1.out.2.1 G1.out.2.2.1 G1.out.2.2.2.1)
  clear b2 b3
  go_wp2_with fail
  refine HC1.out.mono ?_
  rintro e w1 ⟨rfl, he1⟩
  clear HC1 k20 k21 k30 k31
  have k30 := K30.out w1 he1
  have HC2 := Lib.hid (check_ok (HB.out.ext he1) G2.out.2.2.2.2 G2.out.1 G2.out.2.1 G2.out.2.2.1 G2.out.2.2.2.1)
  have k31 := K31.out w1 he1
  go_wp2_with fail
  refine HC2.out.mono ?_
  rintro e w2 ⟨rfl, he2⟩
  have hx2 := he1.trans he2
  clear HC2 he1 he2 k30 k31
  have k20 := K20.out w2 hx2
  have k30 := K30.out w2 hx2
  have HD := Lib.hid (diff_ok (HA.out.ext hx2) (HB.out.ext hx2) (Nat.zero_le n) (Nat.le_refl n) (Nat.le_refl n))
  revert S1 S2 S3 HS HD
  generalize difL a b 0 n = x
  generalize difH a b 0 n = y
  intro S1 S2 S3 HS HD
  go_wp2_with fail
  refine HD.out.mono ?_
  rintro e w3 ⟨rfl, z, rfl⟩
  have hx3 := hx2.to_drewN z
  clear HD k20 k30 hx2
  generalize w2.drewN z = w3 at *
  have HTO : Hid (∀ {wq : World} {g : Nat} {j : Nat × List Int}, JAt wq g B n d j → Ext W wq → W.heap.size ≤ g → j.1 ≤ n → j.2.length ≤ 900000 → Calls Try.prog 44 #[.pointer (some ⟨g, 0, none⟩), .int .i64 at_] wq fun e w' => e = .returned (.pointer (some ⟨g, 0, none⟩)) ∧ JAt w' g B n d (toJ b j at_) ∧ KeepsJ wq w' g) :=
    Lib.hid fun h1 h2 h3 h4 h5 => to_ok h1 HB.out HBN.out h2 h3 hn2 h4 hat (by omega)
  have HBE : Hid (∀ {wq : World}, Ext W wq → Calls Try.prog 42 #[.pointer (some ⟨p3, 0, none⟩), .pointer (some ⟨p2, 0, none⟩)] wq fun e w' => ∃ g, e = .returned (.pointer (some ⟨g, 0, none⟩)) ∧ W.heap.size ≤ g ∧ wq.heap.size ≤ g ∧ JAt w' g B n d (st, []) ∧ Ext wq w') :=
    Lib.hid fun h1 => (begin_ok (K30.out _ h1) (K21.out _ h1)).mono fun e w' ⟨g, h2, h3, h4, h5⟩ => ⟨g, h2, Nat.le_trans h1.hsize h3, h3, h4, h5⟩
  have HOV : Hid (∀ {wq : World} {g u v : Nat} {j : Nat × List Int}, JAt wq g B n d j → Ext W wq → W.heap.size ≤ g → j.1 ≤ n → u ≤ v → v ≤ n → j.2.length ≤ 900000 → Calls Try.prog 45 #[.pointer (some ⟨g, 0, none⟩), .int .i64 u, .int .i64 v] wq fun e w' => e = .returned (.pointer (some ⟨g, 0, none⟩)) ∧ JAt w' g B n d (overJ b j u v) ∧ KeepsJ wq w' g) :=
    Lib.hid fun h1 h2 h3 h4 h5 h6 h7 => overJ_ok h1 HB.out HBN.out h2 h3 hn2 h4 h5 h6 h7
  have HER : Hid (∀ {wq : World} {g u : Nat} {j : Nat × List Int}, JAt wq g B n d j → Ext W wq → W.heap.size ≤ g → j.1 ≤ n → u ≤ n → j.2.length ≤ 900000 → Calls Try.prog 46 #[.pointer (some ⟨g, 0, none⟩), .int .i64 u] wq fun e w' => e = .returned (.pointer (some ⟨g, 0, none⟩)) ∧ JAt w' g B n d (eraseJ b j u) ∧ KeepsJ wq w' g) :=
    Lib.hid fun h1 h2 h3 h4 h5 h6 => eraseJ_ok h1 HB.out HBN.out h2 h3 hn2 h4 h5 h6
  have LT : ∀ (j : Nat × List Int) (k : Nat), j.1 ≤ n → k ≤ n → (toJ b j k).2.length ≤ j.2.length + 121 := fun j k h1 h2 => by
    have := way_short (b := b) (x := j.1) (y := k) (by omega) (by omega)
    show (j.2 ++ wayL b j.1 k).length ≤ _
    rw [List.length_append]; omega
  have LOv : Hid (∀ (j : Nat × List Int) (u v : Nat), j.1 ≤ n → u ≤ v → v ≤ n → (overJ b j u v).2.length ≤ j.2.length + 241) := Lib.hid fun j u v h1 h2 h3 => by
    have := LT j u h1 (by omega)
    show ((toJ b j u).2 ++ (b.drop u).take (v - u)).length ≤ _
    rw [List.length_append, List.length_take]; omega
  have LEr : Hid (∀ (j : Nat × List Int) (u : Nat), j.1 ≤ n → u ≤ n → (eraseJ b j u).2.length ≤ j.2.length + 241) := Lib.hid fun j u h1 h2 => by
    have := LT j u h1 h2
    show ((toJ b j u).2 ++ [11]).length ≤ _
    rw [List.length_append]; simp; omega
  clear LT
  by_cases hxy : x < y
  · have t1 : decide (x < y) = true := by simpa using hxy
    have HS2 : Hid (signsF a st b at_ = if difL a b (fulF b n) n < difH a b (fulF b n) n then bestP b st at_ (difL a b 0 (fulF b n)) (difH a b 0 (fulF b n)) (difL a b (fulF b n) n + 1 - fulF b n) (fulF b n) (toJ b (overJ b (st, []) x y) at_).2 else (toJ b (overJ b (st, []) x y) at_).2) := Lib.hid (by rw [HS.out, if_pos hxy])
    have hl1 := LOv.out (st, []) x y hst S2 S3
    have hl1 : (overJ b (st, []) x y).2.length ≤ 900000 := by simp only [List.length_nil] at hl1; omega
    have hl0 : (overJ b (st, []) x y).1 ≤ n := S3
    clear HS hxy
    have hxw3d := hx3.to_drew
    have k31 := K31.out w3 hx3
    have k31d := K31.out _ hxw3d
    go_upto_region 14 with fail
    go_cut [13] (fun s13 wx => ∃ S q r, s13 = .slice S q r ∧ Hid (OwnI wx w.heap.size S q r (toJ b (overJ b (st, []) x y) at_).2) ∧ Hid (Ext W wx))
    case first =>
      go_region_law (first
        | (refine step_callv rfl 42 #[.pointer (some ⟨p3, 0, none⟩), .pointer (some ⟨p2, 0, none⟩)] 64 rfl (by kernel_rfl) (fun v w' => ∃ g, v = .pointer (some ⟨g, 0, none⟩) ∧ W.heap.size ≤ g ∧ w3.drew.heap.size ≤ g ∧ JAt w' g B n d (st, []) ∧ Ext w3.drew w' ∧ Ext W w') ((HBE.out hxw3d).mono fun e w' ⟨g, h1, h2, h3, h4, h5⟩ => ⟨_, h1, g, rfl, h2, h3, h4, h5, hxw3d.trans h5⟩) ?_
           rintro v w4 ⟨g4, rfl, hg4, hg4', hJw4, hEw4, hxw4⟩
           have k31 := K31.out w4 hxw4)
        | (refine step_callf rfl 45 #[.pointer (some ⟨g4, 0, none⟩), .int .i64 (x : Int), .int .i64 (y : Int)] rfl (by kernel_rfl) (fun v w' => v = .pointer (some ⟨g4, 0, none⟩) ∧ JAt w' g4 B n d (overJ b (st, []) x y) ∧ KeepsJ w4 w' g4 ∧ Ext W w') ((HOV.out hJw4 hxw4 hg4 hst S2 S3 (Nat.zero_le _)).mono fun e w' ⟨h1, h2, h3⟩ => ⟨_, h1, rfl, h2, h3, h3 W hxw4 hg4⟩) ?_
           rintro v w5 ⟨rfl, hJw5, hKw5, hxw5⟩
           have k31 := K31.out w5 hxw5)
        | (refine step_callf rfl 44 #[.pointer (some ⟨g4, 0, none⟩), .int .i64 (at_ : Int)] rfl (by kernel_rfl) (fun v w' => v = .pointer (some ⟨g4, 0, none⟩) ∧ JAt w' g4 B n d (toJ b (overJ b (st, []) x y) at_) ∧ KeepsJ w5 w' g4 ∧ Ext W w') ((HTO.out hJw5 hxw5 hg4 hl0 hl1).mono fun e w' ⟨h1, h2, h3⟩ => ⟨_, h1, rfl, h2, h3, h3 W hxw5 hg4⟩) ?_
           rintro v w6 ⟨rfl, hJw6, hKw6, hxw6⟩
           have k31 := K31.out w6 hxw6
           obtain ⟨S, q, r, k6, ho6⟩ := hJw6.own))
      all_goals
        have HO6 : Hid (OwnI w6 w.heap.size S q r (toJ b (overJ b (st, []) x y) at_).2) := Lib.hid (Own.lower ho6 (by have := HSZ.out; omega))
        have HX6 := Lib.hid hxw6
        clear hJw6 k6 ho6 hJw4 hxw4 hJw5 hxw5 hxw6 k31 hl0 hl1
        go_wp2_with fail
        go_meet
        exact ⟨S, q, r, rfl, HO6, HX6⟩
    case rest =>
      obtain ⟨S, q, r, rfl, HO, HX6⟩ := hcut
      clear k31 k31d hxw3d hx3 hl1 hl0
      generalize hbest : (toJ b (overJ b (st, []) x y) at_).2 = best at *
      clear hbest
      rename World => w7
      have k30 := K30.out w7 HX6.out
      go_upto_block 0 with fail
      go_cut [14] (fun s14 wx => s14 = .int .i64 (fulF b n : Int) ∧ w7 = wx)
      case first =>
        have HBX := Lib.hid (HB.out.ext HX6.out)
        go_wp2_with fail
        go_loopw [14] (fun v wr => ∃ k : Nat, k ≤ n ∧ v = .int .i64 k ∧ Hid (fulF b n = fulF b k) ∧ w7 = wr) (fun v _ => (intOf v).toNat)
        case atStart => exact ⟨n, Nat.le_refl _, rfl, Lib.hid rfl, rfl⟩
        case round =>
          obtain ⟨k, hk, rfl, HF, rfl⟩ := hrel
          rcases Nat.eq_zero_or_pos k with h0 | h0
          · subst h0
            have HF2 : Hid ((fulF b n : Int) = 0) := Lib.hid (by rw [HF.out]; rfl)
            clear HF
            go_wp2_with fail
            go_meet
            exact ⟨by rw [HF2.out]; rfl, rfl⟩
          · obtain ⟨k', rfl⟩ : ∃ k', k = k' + 1 := ⟨k - 1, by omega⟩
            obtain ⟨a1, e1, hc1⟩ := HBX.out.at_ (k := k') (by omega)
            have c1 := hc1 k' (by omega)
            have e2 : ((k' + 1 : Nat) : Int) - 1 = (k' : Int) := by omega
            have hk'n : k' < n := by omega
            subst e1
            by_cases hq : gI b k' = 32
            · have HF2 : Hid (fulF b n = fulF b k') := Lib.hid (by rw [HF.out]; simp [fulF, hq])
              rw [hq] at c1
              clear HF hc1 hq
              go_wp2_with fail
              go_roundw
              case rel => exact ⟨k', by omega, by first | rfl | (congr 1; omega), HF2, trivial⟩
              case measure => simp [intOf]
            · have HF2 : Hid (fulF b n = k' + 1) := Lib.hid (by rw [HF.out]; simp [fulF, hq])
              have b1 : (gI b k' == 32) = false := by simpa using hq
              clear HF hc1 hq
              go_wp2_with fail
              go_meet
              exact ⟨by rw [HF2.out], rfl⟩
      case rest =>
        obtain ⟨rfl, rfl⟩ := hcut
        have hful := (ful_spec b n).1
        obtain ⟨M1, M2, M3, _, _⟩ := dif_spec a b (Nat.zero_le (fulF b n))
        obtain ⟨T1, T2, T3, _, _⟩ := dif_spec a b hful
        have hall := And.intro hful (And.intro M1 (And.intro M2 (And.intro M3 (And.intro T1 (And.intro T2 (And.intro T3 HS2))))))
        clear hful M1 M2 M3 T1 T2 T3 HS2
        revert hall
        generalize fulF b n = full
        rintro ⟨hful, M1, M2, M3, T1, T2, T3, HS2⟩
        have k20 := K20.out w7 HX6.out
        have k30 := K30.out w7 HX6.out
        have HD1 := Lib.hid (diff_ok (HA.out.ext HX6.out) (HB.out.ext HX6.out) (Nat.zero_le full) hful hful)
        have HD2 : Hid (∀ z, Calls Try.prog 43 #[.slice A n c, .slice B n d, .int .i64 full, .int .i64 n] (w7.drewN z) (DifIs (w7.drewN z) (difL a b full n) (difH a b full n))) := Lib.hid fun z => diff_ok (HA.out.ext (HX6.out.to_drewN z)) (HB.out.ext (HX6.out.to_drewN z)) hful (Nat.le_refl n) (Nat.le_refl n)
        have hall := And.intro HD1 (And.intro HD2 (And.intro HS2 (And.intro M1 (And.intro M2 (And.intro M3 (And.intro T1 (And.intro T2 T3)))))))
        clear HD1 HD2 HS2 M1 M2 M3 T1 T2 T3
        revert hall
        generalize difL a b 0 full = lo
        generalize difH a b 0 full = hi
        generalize difL a b full n = fi
        generalize difH a b full n = fh
        rintro ⟨HD1, HD2, HS2, M1, M2, M3, T1, T2, T3⟩
        go_wp2_with fail
        refine HD1.out.mono ?_
        rintro e w8 ⟨rfl, z1, rfl⟩
        obtain ⟨mo, hmo⟩ : ∃ mo, decide (lo < hi) = mo := ⟨_, rfl⟩
        rw [hmo]
        have HMO := Lib.hid hmo
        clear hmo
        have HDz := Lib.hid (HD2.out z1)
        have HX8 := Lib.hid (HX6.out.to_drewN z1)
        have HO8 := Lib.hid (OwnI.ext HO.out (Ext.drewN w7 z1))
        clear HD1 HD2 k20 k30 HX6 HO
        revert HDz HX8 HO8
        generalize w7.drewN z1 = w8
        intro HDz HX8 HO8
        have k20 := K20.out w8 HX8.out
        have k30 := K30.out w8 HX8.out
        go_wp2_with fail
        refine HDz.out.mono ?_
        rintro e w9 ⟨rfl, z2, rfl⟩
        have HX9 := Lib.hid (HX8.out.to_drewN z2)
        have HO9 := Lib.hid (OwnI.ext HO8.out (Ext.drewN w8 z2))
        clear HDz k20 k30 HX8 HO8
        revert HX9 HO9
        generalize w8.drewN z2 = w9
        intro HX9 HO9
        by_cases htl : fi < fh
        · have t2 : decide (fi < fh) = true := by simpa using htl
          have HS3 : Hid (signsF a st b at_ = bestP b st at_ lo hi (fi + 1 - full) full best) := Lib.hid (by rw [HS2.out, if_pos htl])
          clear HS2
          go_wp2_with fail
          go_loopw [13, 21] (fun s13 s21 wr => ∃ (p q r : Nat) (S : Option Addr) (bst : List Int), full ≤ p ∧ p ≤ fi + 1 ∧ s21 = .int .i64 p ∧ s13 = .slice S q r ∧ Hid (OwnI wr w.heap.size S q r bst) ∧ Hid (signsF a st b at_ = bestP b st at_ lo hi (fi + 1 - p) p bst) ∧ Hid (Ext W wr)) (fun _ s21 _ => fi + 1 - (intOf s21).toNat)
          case atStart => exact ⟨full, q, r, S, best, Nat.le_refl _, by omega, rfl, rfl, HO9, HS3, HX9⟩
          case round =>
            clear HO9 HS3 HX9
            obtain ⟨p, q, r, S, bst, hp1, hp2, rfl, rfl, HO, HS3, HXr⟩ := hrel
            by_cases hlt : p ≤ fi
            · have hpn : p ≤ n := by omega
              have HS4 : Hid (signsF a st b at_ = bestP b st at_ lo hi (fi + 1 - (p + 1)) (p + 1) (bestOf bst (ways b st at_ p lo hi))) := Lib.hid (by
                rw [HS3.out]
                obtain ⟨f, hf⟩ : ∃ f, fi + 1 - p = f + 1 := ⟨fi - p, by omega⟩
                rw [hf, show fi + 1 - (p + 1) = f by omega]
                rfl)
              have hd1 := LEr.out (st, []) p hst hpn
              have hd1 : (eraseJ b (st, []) p).2.length ≤ 900000 := by simp only [List.length_nil] at hd1; omega
              have hp0 : (eraseJ b (st, []) p).1 ≤ n := hpn
              have hxwrd := HXr.out.to_drew
              have k31 := K31.out wr HXr.out
              have k31d := K31.out _ hxwrd
              clear HS3
              go_upto_region 25 with fail
              go_cut [22] (fun s22 wx => ∃ gL, s22 = .slice (some ⟨gL, 0, none⟩) 1 1 ∧ Hid (ListO wx w.heap.size gL [way0 b st at_ p]) ∧ Hid (OwnI wx w.heap.size S q r bst) ∧ Hid (Ext W wx))
              case first =>
                go_region_law (first
                  | (refine step_callv rfl 42 #[.pointer (some ⟨p3, 0, none⟩), .pointer (some ⟨p2, 0, none⟩)] 119 rfl (by kernel_rfl) (fun v w' => ∃ g, v = .pointer (some ⟨g, 0, none⟩) ∧ W.heap.size ≤ g ∧ wr.drew.heap.size ≤ g ∧ JAt w' g B n d (st, []) ∧ Ext wr.drew w' ∧ Ext W w') ((HBE.out hxwrd).mono fun e w' ⟨g, h1, h2, h3, h4, h5⟩ => ⟨_, h1, g, rfl, h2, h3, h4, h5, hxwrd.trans h5⟩) ?_
                     rintro v w4 ⟨g4, rfl, hg4, hg4', hJw4, hEw4, hxw4⟩
                     have k31 := K31.out w4 hxw4)
                  | (refine step_callf rfl 46 #[.pointer (some ⟨g4, 0, none⟩), .int .i64 (p : Int)] rfl (by kernel_rfl) (fun v w' => v = .pointer (some ⟨g4, 0, none⟩) ∧ JAt w' g4 B n d (eraseJ b (st, []) p) ∧ KeepsJ w4 w' g4 ∧ Ext W w') ((HER.out hJw4 hxw4 hg4 hst hpn (Nat.zero_le _)).mono fun e w' ⟨h1, h2, h3⟩ => ⟨_, h1, rfl, h2, h3, h3 W hxw4 hg4⟩) ?_
                     rintro v w5 ⟨rfl, hJw5, hKw5, hxw5⟩
                     have k31 := K31.out w5 hxw5)
                  | (refine step_callf rfl 44 #[.pointer (some ⟨g4, 0, none⟩), .int .i64 (at_ : Int)] rfl (by kernel_rfl) (fun v w' => v = .pointer (some ⟨g4, 0, none⟩) ∧ JAt w' g4 B n d (toJ b (eraseJ b (st, []) p) at_) ∧ KeepsJ w5 w' g4 ∧ Ext W w') ((HTO.out hJw5 hxw5 hg4 hp0 hd1).mono fun e w' ⟨h1, h2, h3⟩ => ⟨_, h1, rfl, h2, h3, h3 W hxw5 hg4⟩) ?_
                     rintro v w6 ⟨rfl, hJw6, hKw6, hxw6⟩
                     have k31 := K31.out w6 hxw6
                     obtain ⟨S6, q6, r6, k6, ho6⟩ := hJw6.own
                     have hWR : Ext wr w6 := (Ext.drew wr).trans (hKw6 _ (hKw5 _ hEw4 hg4') hg4')))
                all_goals
                  have hL : Hid (ListO (w6.alloc (.cells #[.slice S6 q6 r6] 22)) w.heap.size w6.heap.size [way0 b st at_ p]) := Lib.hid (ListO.one (Blk.new w6 _ _) (OwnI.ext (Own.lower ho6 (by have := HSZ.out; omega)) (Ext.alloc _ _)))
                  have hO6 : Hid (OwnI (w6.alloc (.cells #[.slice S6 q6 r6] 22)) w.heap.size S q r bst) := Lib.hid (OwnI.ext HO.out (hWR.to_alloc _))
                  have hX6 : Hid (Ext W (w6.alloc (.cells #[.slice S6 q6 r6] 22))) := Lib.hid (hxw6.to_alloc _)
                  clear hJw4 hEw4 hxw4 hJw5 hKw5 hxw5 hJw6 hKw6 hxw6 k6 ho6 hWR k31
                  go_wp2_with fail
                  go_meet
                  exact ⟨w6.heap.size, rfl, hL, hO6, hX6⟩
              case rest =>
                obtain ⟨gL, rfl, hL, hO6, hX6⟩ := hcut
                rename World => wa
                clear HO HXr k31 k31d hxwrd
                go_upto_if 130 with fail
                go_cut [22] (fun s22 wx => ∃ gL k, s22 = .slice (some ⟨gL, 0, none⟩) k k ∧ k = (ways b st at_ p lo hi).length ∧ Hid (ListO wx w.heap.size gL (ways b st at_ p lo hi)) ∧ Hid (OwnI wx w.heap.size S q r bst) ∧ Hid (Ext W wx))
                case first =>
                  cases mo with
                  | true =>
                    have hlh : lo < hi := by have := HMO.out; simpa using this
                    have hWY : Hid (ways b st at_ p lo hi = [way1 b st at_ p lo hi, way2 b st at_ p lo hi]) := Lib.hid (by unfold ways; rw [if_pos hlh])
                    have hxwad := hX6.out.to_drew
                    have k31 := K31.out wa hX6.out
                    have k31d := K31.out _ hxwad
                    have hhn : hi ≤ n := by omega
                    have he1 := LOv.out (st, []) lo hi hst M2 hhn
                    have he1 : (overJ b (st, []) lo hi).2.length ≤ 241 := by simp only [List.length_nil] at he1; omega
                    have hq1 : (overJ b (st, []) lo hi).1 ≤ n := hhn
                    have he2 := LEr.out (overJ b (st, []) lo hi) p hq1 hpn
                    have he2 : (eraseJ b (overJ b (st, []) lo hi) p).2.length ≤ 900000 := by omega
                    have hq2 : (eraseJ b (overJ b (st, []) lo hi) p).1 ≤ n := hpn
                    have he1' : (overJ b (st, []) lo hi).2.length ≤ 900000 := by omega
                    have he3 := LOv.out (eraseJ b (st, []) p) lo hi hp0 M2 hhn
                    have he0 := LEr.out (st, []) p hst hpn
                    have he3 : (overJ b (eraseJ b (st, []) p) lo hi).2.length ≤ 900000 := by simp only [List.length_nil] at he0; omega
                    have hq3 : (overJ b (eraseJ b (st, []) p) lo hi).1 ≤ n := hhn
                    clear hlh he0
                    go_wp2_with fail
                    refine wp_region_held_drew (S := fun w' => w'.cell? ⟨p3, 1, none⟩ = some (.int .i64 (at_ : Int))) (by kernel_rfl) k31d (fun hHeld => ?_)
                    refine wpAnyH_take (i := 0) (v := (.func (.func 42) #[] #[.pointer (some ⟨p3, 0, none⟩), .pointer (some ⟨p2, 0, none⟩)])) rfl (by kernel_rfl) (by kernel_rfl) (by kernel_rfl) (fun _ _ _ h => h) (Or.inl ⟨by rfl, by (intro w hSw; go_simp)⟩) hHeld ?_
                    simp only [List.getElem_toArray, List.getElem_cons_zero, List.getElem_cons_succ, Act.put, List.setIfInBounds_toArray, List.set_cons_zero, List.set_cons_succ]
                    refine wpAnyH_take (i := 2) (v := (.int .i64 (lo : Int))) rfl (by kernel_rfl) (by kernel_rfl) (by kernel_rfl) (fun _ _ _ h => h) (Or.inl ⟨by rfl, by (intro w hSw; go_simp)⟩) hHeld ?_
                    simp only [List.getElem_toArray, List.getElem_cons_zero, List.getElem_cons_succ, Act.put, List.setIfInBounds_toArray, List.set_cons_zero, List.set_cons_succ]
                    refine wpAnyH_take (i := 3) (v := (.int .i64 (hi : Int))) rfl (by kernel_rfl) (by kernel_rfl) (by kernel_rfl) (fun _ _ _ h => h) (Or.inl ⟨by rfl, by (intro w hSw; go_simp)⟩) hHeld ?_
                    simp only [List.getElem_toArray, List.getElem_cons_zero, List.getElem_cons_succ, Act.put, List.setIfInBounds_toArray, List.set_cons_zero, List.set_cons_succ]
                    refine wpAnyH_take (i := 5) (v := (.int .i64 (p : Int))) rfl (by kernel_rfl) (by kernel_rfl) (by kernel_rfl) (fun _ _ _ h => h) (Or.inl ⟨by rfl, by (intro w hSw; go_simp)⟩) hHeld ?_
                    simp only [List.getElem_toArray, List.getElem_cons_zero, List.getElem_cons_succ, Act.put, List.setIfInBounds_toArray, List.set_cons_zero, List.set_cons_succ]
                    refine wpAnyH_take (i := 7) (v := (.pointer (some ⟨p3, 1, none⟩))) rfl (by kernel_rfl) (by kernel_rfl) (by kernel_rfl) (fun _ _ _ h => h) (Or.inl ⟨by rfl, by (intro w hSw; go_simp)⟩) hHeld ?_
                    simp only [List.getElem_toArray, List.getElem_cons_zero, List.getElem_cons_succ, Act.put, List.setIfInBounds_toArray, List.set_cons_zero, List.set_cons_succ]
                    refine wpAnyH_take (i := 8) (v := (.int .i64 (at_ : Int))) rfl (by kernel_rfl) (by kernel_rfl) (by kernel_rfl) (fun _ _ _ h => h) (Or.inl ⟨by rfl, by (intro w hSw; go_simp)⟩) hHeld ?_
                    simp only [List.getElem_toArray, List.getElem_cons_zero, List.getElem_cons_succ, Act.put, List.setIfInBounds_toArray, List.set_cons_zero, List.set_cons_succ]
                    refine wpAnyH_take (i := 13) (v := (.func (.func 42) #[] #[.pointer (some ⟨p3, 0, none⟩), .pointer (some ⟨p2, 0, none⟩)])) rfl (by kernel_rfl) (by kernel_rfl) (by kernel_rfl) (fun _ _ _ h => h) (Or.inl ⟨by rfl, by (intro w hSw; go_simp)⟩) hHeld ?_
                    simp only [List.getElem_toArray, List.getElem_cons_zero, List.getElem_cons_succ, Act.put, List.setIfInBounds_toArray, List.set_cons_zero, List.set_cons_succ]
                    refine wpAnyH_take (i := 15) (v := (.int .i64 (p : Int))) rfl (by kernel_rfl) (by kernel_rfl) (by kernel_rfl) (fun _ _ _ h => h) (Or.inl ⟨by rfl, by (intro w hSw; go_simp)⟩) hHeld ?_
                    simp only [List.getElem_toArray, List.getElem_cons_zero, List.getElem_cons_succ, Act.put, List.setIfInBounds_toArray, List.set_cons_zero, List.set_cons_succ]
                    refine wpAnyH_take (i := 17) (v := (.int .i64 (lo : Int))) rfl (by kernel_rfl) (by kernel_rfl) (by kernel_rfl) (fun _ _ _ h => h) (Or.inl ⟨by rfl, by (intro w hSw; go_simp)⟩) hHeld ?_
                    simp only [List.getElem_toArray, List.getElem_cons_zero, List.getElem_cons_succ, Act.put, List.setIfInBounds_toArray, List.set_cons_zero, List.set_cons_succ]
                    refine wpAnyH_take (i := 18) (v := (.int .i64 (hi : Int))) rfl (by kernel_rfl) (by kernel_rfl) (by kernel_rfl) (fun _ _ _ h => h) (Or.inl ⟨by rfl, by (intro w hSw; go_simp)⟩) hHeld ?_
                    simp only [List.getElem_toArray, List.getElem_cons_zero, List.getElem_cons_succ, Act.put, List.setIfInBounds_toArray, List.set_cons_zero, List.set_cons_succ]
                    refine wpAnyH_take (i := 20) (v := (.pointer (some ⟨p3, 1, none⟩))) rfl (by kernel_rfl) (by kernel_rfl) (by kernel_rfl) (fun _ _ _ h => h) (Or.inl ⟨by rfl, by (intro w hSw; go_simp)⟩) hHeld ?_
                    simp only [List.getElem_toArray, List.getElem_cons_zero, List.getElem_cons_succ, Act.put, List.setIfInBounds_toArray, List.set_cons_zero, List.set_cons_succ]
                    refine wpAnyH_take (i := 21) (v := (.int .i64 (at_ : Int))) rfl (by kernel_rfl) (by kernel_rfl) (by kernel_rfl) (fun _ _ _ h => h) (Or.inl ⟨by rfl, by (intro w hSw; go_simp)⟩) hHeld ?_
                    simp only [List.getElem_toArray, List.getElem_cons_zero, List.getElem_cons_succ, Act.put, List.setIfInBounds_toArray, List.set_cons_zero, List.set_cons_succ]
                    refine wpAnyH_ready (rs := [1]) (by kernel_rfl) (by simp) ?_
                    refine AllReadyH.cons rfl (fun K hK => ?_) AllReadyH.nil
                    refine step_callv rfl 42 #[.pointer (some ⟨p3, 0, none⟩), .pointer (some ⟨p2, 0, none⟩)] 131 rfl (by kernel_rfl) (fun v w' => ∃ g, v = .pointer (some ⟨g, 0, none⟩) ∧ W.heap.size ≤ g ∧ wa.drew.heap.size ≤ g ∧ JAt w' g B n d (st, []) ∧ Ext wa.drew w' ∧ Ext W w') ((HBE.out hxwad).mono fun e w' ⟨g, h1, h2, h3, h4, h5⟩ => ⟨_, h1, g, rfl, h2, h3, h4, h5, hxwad.trans h5⟩) ?_
                    rintro v w4 ⟨g4, rfl, hg4, hg4', hJw4, hEw4, hxw4⟩
                    refine hK.out _ _ (K31.out _ hxw4) (fun hHeld => ?_)
                    clear hK K
                    simp only [List.getElem_toArray, List.getElem_cons_zero, List.getElem_cons_succ, Act.put, List.setIfInBounds_toArray, List.set_cons_zero, List.set_cons_succ]
                    refine wpAnyH_ready (rs := [4]) (by kernel_rfl) (by simp) ?_
                    refine AllReadyH.cons rfl (fun K hK => ?_) AllReadyH.nil
                    refine step_callf rfl 45 #[.pointer (some ⟨g4, 0, none⟩), .int .i64 (lo : Int), .int .i64 (hi : Int)] rfl (by kernel_rfl) (fun v w' => v = .pointer (some ⟨g4, 0, none⟩) ∧ JAt w' g4 B n d (overJ b (st, []) lo hi) ∧ KeepsJ w4 w' g4 ∧ Ext W w') ((HOV.out hJw4 hxw4 hg4 hst M2 hhn (Nat.zero_le _)).mono fun e w' ⟨h1, h2, h3⟩ => ⟨_, h1, rfl, h2, h3, h3 W hxw4 hg4⟩) ?_
                    rintro v w5 ⟨rfl, hJw5, hKw5, hxw5⟩
                    refine hK.out _ _ (K31.out _ hxw5) (fun hHeld => ?_)
                    clear hK K
                    simp only [List.getElem_toArray, List.getElem_cons_zero, List.getElem_cons_succ, Act.put, List.setIfInBounds_toArray, List.set_cons_zero, List.set_cons_succ]
                    refine wpAnyH_ready (rs := [6]) (by kernel_rfl) (by simp) ?_
                    refine AllReadyH.cons rfl (fun K hK => ?_) AllReadyH.nil
                    refine step_callf rfl 46 #[.pointer (some ⟨g4, 0, none⟩), .int .i64 (p : Int)] rfl (by kernel_rfl) (fun v w' => v = .pointer (some ⟨g4, 0, none⟩) ∧ JAt w' g4 B n d (eraseJ b (overJ b (st, []) lo hi) p) ∧ KeepsJ w5 w' g4 ∧ Ext W w') ((HER.out hJw5 hxw5 hg4 hq1 hpn he1').mono fun e w' ⟨h1, h2, h3⟩ => ⟨_, h1, rfl, h2, h3, h3 W hxw5 hg4⟩) ?_
                    rintro v w6 ⟨rfl, hJw6, hKw6, hxw6⟩
                    refine hK.out _ _ (K31.out _ hxw6) (fun hHeld => ?_)
                    clear hK K
                    simp only [List.getElem_toArray, List.getElem_cons_zero, List.getElem_cons_succ, Act.put, List.setIfInBounds_toArray, List.set_cons_zero, List.set_cons_succ]
                    refine wpAnyH_ready (rs := [9]) (by kernel_rfl) (by simp) ?_
                    refine AllReadyH.cons rfl (fun K hK => ?_) AllReadyH.nil
                    refine step_callf rfl 44 #[.pointer (some ⟨g4, 0, none⟩), .int .i64 (at_ : Int)] rfl (by kernel_rfl) (fun v w' => v = .pointer (some ⟨g4, 0, none⟩) ∧ JAt w' g4 B n d (toJ b (eraseJ b (overJ b (st, []) lo hi) p) at_) ∧ KeepsJ w6 w' g4 ∧ Ext W w') ((HTO.out hJw6 hxw6 hg4 hq2 he2).mono fun e w' ⟨h1, h2, h3⟩ => ⟨_, h1, rfl, h2, h3, h3 W hxw6 hg4⟩) ?_
                    rintro v w7 ⟨rfl, hJw7, hKw7, hxw7⟩
                    obtain ⟨S7, q7, r7, k7, ho7⟩ := hJw7.own
                    have hWR : Ext wa w7 := (Ext.drew wa).trans (hKw7 _ (hKw6 _ (hKw5 _ hEw4 hg4') hg4') hg4')
                    refine hK.out _ _ (K31.out _ hxw7) (fun hHeld => ?_)
                    clear hK K
                    simp only [List.getElem_toArray, List.getElem_cons_zero, List.getElem_cons_succ, Act.put, List.setIfInBounds_toArray, List.set_cons_zero, List.set_cons_succ]
                    refine wpAnyH_take (i := 10) (v := (.pointer (some ⟨g4, 0, none⟩))) rfl (by kernel_rfl) (by kernel_rfl) (by kernel_rfl) (fun _ _ _ h => h) (Or.inl ⟨by rfl, by (intro w hSw; go_simp)⟩) hHeld ?_
                    simp only [List.getElem_toArray, List.getElem_cons_zero, List.getElem_cons_succ, Act.put, List.setIfInBounds_toArray, List.set_cons_zero, List.set_cons_succ]
                    refine wpAnyH_take (i := 11) (v := (.pointer (some ⟨g4, 2, none⟩))) rfl (by kernel_rfl) (by kernel_rfl) (by kernel_rfl) (fun _ _ _ h => h) (Or.inl ⟨by rfl, by (intro w hSw; go_simp)⟩) hHeld ?_
                    simp only [List.getElem_toArray, List.getElem_cons_zero, List.getElem_cons_succ, Act.put, List.setIfInBounds_toArray, List.set_cons_zero, List.set_cons_succ]
                    refine held_mono (S' := fun w' => w'.cell? ⟨p3, 1, none⟩ = some (.int .i64 (at_ : Int)) ∧ w'.cell? ⟨g4, 2, none⟩ = some (.slice S7 q7 r7)) (fun w h => h.1) _ _ _ _ ?_
                    have hHeld : w7.cell? ⟨p3, 1, none⟩ = some (.int .i64 (at_ : Int)) ∧ w7.cell? ⟨g4, 2, none⟩ = some (.slice S7 q7 r7) := ⟨hHeld, k7⟩
                    refine wpAnyH_take (i := 12) (v := (.slice S7 q7 r7)) rfl (by kernel_rfl) (by kernel_rfl) (by kernel_rfl) (fun _ _ _ h => h) (Or.inl ⟨by rfl, by (intro w hSw; obtain ⟨hs1, hs2⟩ := hSw; go_simp)⟩) hHeld ?_
                    simp only [List.getElem_toArray, List.getElem_cons_zero, List.getElem_cons_succ, Act.put, List.setIfInBounds_toArray, List.set_cons_zero, List.set_cons_succ]
                    refine wpAnyH_ready (rs := [14]) (by kernel_rfl) (by simp) ?_
                    refine AllReadyH.cons rfl (fun K hK => ?_) AllReadyH.nil
                    refine step_callv rfl 42 #[.pointer (some ⟨p3, 0, none⟩), .pointer (some ⟨p2, 0, none⟩)] 144 rfl (by kernel_rfl) (fun v w' => ∃ g, v = .pointer (some ⟨g, 0, none⟩) ∧ W.heap.size ≤ g ∧ w7.heap.size ≤ g ∧ JAt w' g B n d (st, []) ∧ Ext w7 w' ∧ Ext W w') ((HBE.out hxw7).mono fun e w' ⟨g, h1, h2, h3, h4, h5⟩ => ⟨_, h1, g, rfl, h2, h3, h4, h5, hxw7.trans h5⟩) ?_
                    rintro v w8 ⟨g8, rfl, hg8, hg8', hJw8, hEw8, hxw8⟩
                    refine hK.out _ _ ⟨K31.out _ hxw8, hEw8.cell k7⟩ (fun hHeld => ?_)
                    clear hK K
                    simp only [List.getElem_toArray, List.getElem_cons_zero, List.getElem_cons_succ, Act.put, List.setIfInBounds_toArray, List.set_cons_zero, List.set_cons_succ]
                    refine wpAnyH_ready (rs := [16]) (by kernel_rfl) (by simp) ?_
                    refine AllReadyH.cons rfl (fun K hK => ?_) AllReadyH.nil
                    refine step_callf rfl 46 #[.pointer (some ⟨g8, 0, none⟩), .int .i64 (p : Int)] rfl (by kernel_rfl) (fun v w' => v = .pointer (some ⟨g8, 0, none⟩) ∧ JAt w' g8 B n d (eraseJ b (st, []) p) ∧ KeepsJ w8 w' g8 ∧ Ext W w') ((HER.out hJw8 hxw8 hg8 hst hpn (Nat.zero_le _)).mono fun e w' ⟨h1, h2, h3⟩ => ⟨_, h1, rfl, h2, h3, h3 W hxw8 hg8⟩) ?_
                    rintro v w9 ⟨rfl, hJw9, hKw9, hxw9⟩
                    have hEw9 := hKw9 _ hEw8 hg8'
                    refine hK.out _ _ ⟨K31.out _ hxw9, hEw9.cell k7⟩ (fun hHeld => ?_)
                    clear hK K
                    simp only [List.getElem_toArray, List.getElem_cons_zero, List.getElem_cons_succ, Act.put, List.setIfInBounds_toArray, List.set_cons_zero, List.set_cons_succ]
                    refine wpAnyH_ready (rs := [19]) (by kernel_rfl) (by simp) ?_
                    refine AllReadyH.cons rfl (fun K hK => ?_) AllReadyH.nil
                    refine step_callf rfl 45 #[.pointer (some ⟨g8, 0, none⟩), .int .i64 (lo : Int), .int .i64 (hi : Int)] rfl (by kernel_rfl) (fun v w' => v = .pointer (some ⟨g8, 0, none⟩) ∧ JAt w' g8 B n d (overJ b (eraseJ b (st, []) p) lo hi) ∧ KeepsJ w9 w' g8 ∧ Ext W w') ((HOV.out hJw9 hxw9 hg8 hp0 M2 hhn hd1).mono fun e w' ⟨h1, h2, h3⟩ => ⟨_, h1, rfl, h2, h3, h3 W hxw9 hg8⟩) ?_
                    rintro v w10 ⟨rfl, hJw10, hKw10, hxw10⟩
                    have hEw10 := hKw10 _ hEw9 hg8'
                    refine hK.out _ _ ⟨K31.out _ hxw10, hEw10.cell k7⟩ (fun hHeld => ?_)
                    clear hK K
                    simp only [List.getElem_toArray, List.getElem_cons_zero, List.getElem_cons_succ, Act.put, List.setIfInBounds_toArray, List.set_cons_zero, List.set_cons_succ]
                    refine wpAnyH_ready (rs := [22]) (by kernel_rfl) (by simp) ?_
                    refine AllReadyH.cons rfl (fun K hK => ?_) AllReadyH.nil
                    refine step_callf rfl 44 #[.pointer (some ⟨g8, 0, none⟩), .int .i64 (at_ : Int)] rfl (by kernel_rfl) (fun v w' => v = .pointer (some ⟨g8, 0, none⟩) ∧ JAt w' g8 B n d (toJ b (overJ b (eraseJ b (st, []) p) lo hi) at_) ∧ KeepsJ w10 w' g8 ∧ Ext W w') ((HTO.out hJw10 hxw10 hg8 hq3 he3).mono fun e w' ⟨h1, h2, h3⟩ => ⟨_, h1, rfl, h2, h3, h3 W hxw10 hg8⟩) ?_
                    rintro v w11 ⟨rfl, hJw11, hKw11, hxw11⟩
                    have hEw11 := hKw11 _ hEw10 hg8'
                    obtain ⟨S11, q11, r11, k11, ho11⟩ := hJw11.own
                    refine hK.out _ _ ⟨K31.out _ hxw11, hEw11.cell k7⟩ (fun hHeld => ?_)
                    clear hK K
                    simp only [List.getElem_toArray, List.getElem_cons_zero, List.getElem_cons_succ, Act.put, List.setIfInBounds_toArray, List.set_cons_zero, List.set_cons_succ]
                    refine wpAnyH_take (i := 23) (v := (.pointer (some ⟨g8, 0, none⟩))) rfl (by kernel_rfl) (by kernel_rfl) (by kernel_rfl) (fun _ _ _ h => h) (Or.inl ⟨by rfl, by (intro w hSw; obtain ⟨hs1, hs2⟩ := hSw; go_simp)⟩) hHeld ?_
                    simp only [List.getElem_toArray, List.getElem_cons_zero, List.getElem_cons_succ, Act.put, List.setIfInBounds_toArray, List.set_cons_zero, List.set_cons_succ]
                    refine wpAnyH_take (i := 24) (v := (.pointer (some ⟨g8, 2, none⟩))) rfl (by kernel_rfl) (by kernel_rfl) (by kernel_rfl) (fun _ _ _ h => h) (Or.inl ⟨by rfl, by (intro w hSw; obtain ⟨hs1, hs2⟩ := hSw; go_simp)⟩) hHeld ?_
                    simp only [List.getElem_toArray, List.getElem_cons_zero, List.getElem_cons_succ, Act.put, List.setIfInBounds_toArray, List.set_cons_zero, List.set_cons_succ]
                    refine held_mono (S' := fun w' => (w'.cell? ⟨p3, 1, none⟩ = some (.int .i64 (at_ : Int)) ∧ w'.cell? ⟨g4, 2, none⟩ = some (.slice S7 q7 r7)) ∧ w'.cell? ⟨g8, 2, none⟩ = some (.slice S11 q11 r11)) (fun w h => h.1) _ _ _ _ ?_
                    have hHeld : (w11.cell? ⟨p3, 1, none⟩ = some (.int .i64 (at_ : Int)) ∧ w11.cell? ⟨g4, 2, none⟩ = some (.slice S7 q7 r7)) ∧ w11.cell? ⟨g8, 2, none⟩ = some (.slice S11 q11 r11) := ⟨hHeld, k11⟩
                    refine wpAnyH_take (i := 25) (v := (.slice S11 q11 r11)) rfl (by kernel_rfl) (by kernel_rfl) (by kernel_rfl) (fun _ _ _ h => h) (Or.inl ⟨by rfl, by (intro w hSw; obtain ⟨hs1, hs2⟩ := hSw; go_simp)⟩) hHeld ?_
                    simp only [List.getElem_toArray, List.getElem_cons_zero, List.getElem_cons_succ, Act.put, List.setIfInBounds_toArray, List.set_cons_zero, List.set_cons_succ]
                    have hx12 := Ext.alloc w11 (.cells #[.slice S7 q7 r7, .slice S11 q11 r11] 22)
                    refine wpAnyH_ready (rs := [26]) (by kernel_rfl) (by simp) ?_
                    refine AllReadyH.cons rfl (fun K hK => ?_) AllReadyH.nil
                    go_simp
                    refine hK.out _ _ ⟨⟨hx12.cell hHeld.1.1, hx12.cell hHeld.1.2⟩, hx12.cell hHeld.2⟩ (fun hHeld => ?_)
                    clear hK K
                    try simp only [List.getElem_toArray, List.getElem_cons_zero, List.getElem_cons_succ, Act.put, List.setIfInBounds_toArray, List.set_cons_zero, List.set_cons_succ]
                    refine wpAnyH_take (i := 27) (v := (.slice (some ⟨w11.heap.size, 0, none⟩) 2 2)) rfl (by kernel_rfl) (by kernel_rfl) (by kernel_rfl) (fun _ _ _ h => h) (Or.inl ⟨by rfl, by (intro w hSw; go_simp)⟩) hHeld ?_
                    simp only [List.getElem_toArray, List.getElem_cons_zero, List.getElem_cons_succ, Act.put, List.setIfInBounds_toArray, List.set_cons_zero, List.set_cons_succ]
                    refine wpAnyH_done (by kernel_rfl) ?_ _
                    have hEa : Ext wa w11 := hWR.trans hEw11
                    have hL : Hid (ListO (w11.alloc (.cells #[.slice S7 q7 r7, .slice S11 q11 r11] 22)) w.heap.size w11.heap.size [way1 b st at_ p lo hi, way2 b st at_ p lo hi]) := Lib.hid (ListO.two (Blk.new w11 _ _) (OwnI.ext (OwnI.ext (Own.lower ho7 (by have := HSZ.out; omega)) hEw11) (Ext.alloc _ _)) (OwnI.ext (Own.lower ho11 (by have := HSZ.out; omega)) (Ext.alloc _ _)))
                    rw [← hWY.out] at hL
                    have hO12 : Hid (OwnI (w11.alloc (.cells #[.slice S7 q7 r7, .slice S11 q11 r11] 22)) w.heap.size S q r bst) := Lib.hid (OwnI.ext hO6.out (hEa.trans hx12))
                    have hX12 : Hid (Ext W (w11.alloc (.cells #[.slice S7 q7 r7, .slice S11 q11 r11] 22))) := Lib.hid (hxw11.to_alloc _)
                    have hWL : Hid (2 = (ways b st at_ p lo hi).length) := Lib.hid (by rw [hWY.out]; rfl)
                    clear hJw4 hEw4 hxw4 hJw5 hKw5 hxw5 hJw6 hKw6 hxw6 hJw7 hKw7 hxw7 k7 ho7 hWR hJw8 hEw8 hxw8 hJw9 hKw9 hxw9 hEw9 hJw10 hKw10 hxw10 hEw10 hJw11 hKw11 hxw11 hEw11 k11 ho11 hx12 hEa hHeld k31 k31d hWY
                    go_wp2_with fail
                    go_meet
                    exact ⟨w11.heap.size, 2, rfl, hWL.out, hL, hO12, hX12⟩
                  | false =>
                    have hlh : ¬ lo < hi := by have := HMO.out; simpa using this
                    have hWY : ways b st at_ p lo hi = [way0 b st at_ p] := by unfold ways; rw [if_neg hlh]
                    rw [← hWY] at hL
                    have hWL : Hid (1 = (ways b st at_ p lo hi).length) := Lib.hid (by rw [hWY]; rfl)
                    clear hWY hlh
                    go_wp2_with fail
                    go_meet
                    exact ⟨gL, 1, rfl, hWL.out, hL, hO6, hX6⟩
                case rest =>
                  obtain ⟨gL, kL, rfl, hkL, hL, hO, hX⟩ := hcut
                  rename World => wb
                  clear hO6 hX6
                  have HKL := Lib.hid hkL
                  clear hkL
                  have hkb : kL ≤ 2 := by rw [HKL.out]; unfold ways; split <;> simp
                  have hall := And.intro HKL (And.intro hL HS4)
                  clear HKL hL HS4
                  revert hall
                  generalize ways b st at_ p lo hi = ws
                  rintro ⟨HKL, hL, HS4⟩
                  go_wp2_with fail
                  go_loopw [13, 160] (fun s13 s160 wr => ∃ (i q r : Nat) (S : Option Addr), i ≤ kL ∧ s160 = .int .i64 i ∧ s13 = .slice S q r ∧ Hid (OwnI wb w.heap.size S q r (bestOf bst (ws.take i))) ∧ wb = wr) (fun _ s160 _ => kL - (intOf s160).toNat)
                  case atStart => exact ⟨0, q, r, S, by omega, rfl, rfl, hO, rfl⟩
                  case round =>
                    clear hO
                    obtain ⟨i, q, r, S, hik, rfl, rfl, HOi, rfl⟩ := hrel
                    by_cases hlt : i < kL
                    · obtain ⟨Si, qi, ri, ci, oi⟩ := hL.out i (by rw [← HKL.out]; exact hlt)
                      have HQI : Hid ((ws[i]?.getD []).length = qi) := Lib.hid (OwnI.ints oi).len
                      have HQ : Hid ((bestOf bst (ws.take i)).length = q) := Lib.hid (OwnI.ints HOi.out).len
                      have HB1 : Hid (bestOf bst (ws.take (i + 1)) = better (bestOf bst (ws.take i)) (ws[i]?.getD [])) := Lib.hid (by rw [take_snocL (by rw [← HKL.out]; exact hlt), bestOf_snoc])
                      have OI := Lib.hid oi
                      clear oi
                      by_cases hc : qi < q
                      · have hcd : decide (qi < q) = true := by simpa using hc
                        have hcd2 : decide ((qi : Int) < (q : Int)) = true := by simp; omega
                        have HN : Hid (OwnI wb w.heap.size Si qi ri (bestOf bst (ws.take (i + 1)))) := Lib.hid (by
                          rw [HB1.out]
                          unfold better
                          rw [if_pos (by rw [HQI.out, HQ.out]; exact hc)]
                          exact OI.out)
                        clear hc HOi HQI HQ HB1 OI
                        go_wp2_with fail
                        go_roundw
                        case rel => exact ⟨i + 1, qi, ri, Si, by omega, by go_num, rfl, HN, trivial⟩
                        case measure => simp [intOf]; omega
                      · have hcd : decide (qi < q) = false := by simpa using hc
                        have hcd2 : decide ((qi : Int) < (q : Int)) = false := by simp; omega
                        have HN : Hid (OwnI wb w.heap.size S q r (bestOf bst (ws.take (i + 1)))) := Lib.hid (by
                          rw [HB1.out]
                          unfold better
                          rw [if_neg (by rw [HQI.out, HQ.out]; exact hc)]
                          exact HOi.out)
                        clear hc HOi HQI HQ HB1 OI
                        go_wp2_with fail
                        go_roundw
                        case rel => exact ⟨i + 1, q, r, S, by omega, by go_num, rfl, HN, trivial⟩
                        case measure => simp [intOf]; omega
                    · obtain rfl : i = kL := by omega
                      have HN : Hid (OwnI wb w.heap.size S q r (bestOf bst ws)) := Lib.hid (by
                        have := HOi.out
                        rw [List.take_of_length_le (by rw [← HKL.out]; exact Nat.le_refl _)] at this
                        exact this)
                      clear HOi
                      go_wp2_with fail
                      go_roundw
                      case rel => exact ⟨p + 1, q, r, S, bestOf bst ws, by omega, by omega, by go_num, rfl, HN, HS4, hX⟩
                      case measure => simp [intOf]; omega
            · obtain rfl : p = fi + 1 := by omega
              have HF : Hid (SigIs w (signsF a st b at_) (.returned (.tuple #[.slice S q r, .int .i64 0])) wr) := Lib.hid ⟨S, q, r, rfl, by rw [HS3.out, Nat.sub_self]; exact HO.out, HX.out.trans HXr.out⟩
              clear HS3 HO
              go_wp2_with fail
              go_ret2
              exact HF.out
        · have t2 : decide (fi < fh) = false := by simpa using htl
          have HF : Hid (SigIs w (signsF a st b at_) (.returned (.tuple #[.slice S q r, .int .i64 0])) w9) := Lib.hid ⟨S, q, r, rfl, by rw [HS2.out, if_neg htl]; exact HO9.out, HX.out.trans HX9.out⟩
          clear HS2
          go_wp2_with fail
          go_ret2
          exact HF.out
  · have t1 : decide (x < y) = false := by simpa using hxy
    have HS2 : Hid (signsF a st b at_ = (toJ b (st, []) at_).2) := Lib.hid (by rw [HS.out, if_neg hxy])
    clear HS hxy
    have hxd := hx3.to_drew
    have k31 := K31.out w3 hx3
    have k31d := K31.out _ hxd
    go_wp2_with fail
    go_region_law (first
      | (refine step_callv rfl 42 #[.pointer (some ⟨p3, 0, none⟩), .pointer (some ⟨p2, 0, none⟩)] 56 rfl (by kernel_rfl) (fun v w' => ∃ g, v = .pointer (some ⟨g, 0, none⟩) ∧ W.heap.size ≤ g ∧ JAt w' g B n d (st, []) ∧ Ext W w') ((HBE.out hxd).mono fun e w' ⟨g, h1, h2, h3, h4, h5⟩ => ⟨_, h1, g, rfl, h2, h4, hxd.trans h5⟩) ?_
         rintro v w4 ⟨g, rfl, hg, hJ4, hx4⟩
         have k31 := K31.out w4 hx4)
      | (refine step_callf rfl 44 #[.pointer (some ⟨g, 0, none⟩), .int .i64 (at_ : Int)] rfl (by kernel_rfl) (fun v w' => v = .pointer (some ⟨g, 0, none⟩) ∧ JAt w' g B n d (toJ b (st, []) at_) ∧ Ext W w') ((HTO.out hJ4 hx4 hg hst (Nat.zero_le _)).mono fun e w' ⟨h1, h2, h3⟩ => ⟨_, h1, rfl, h2, h3 W hx4 hg⟩) ?_
         rintro v w5 ⟨rfl, hJ5, hx5⟩
         obtain ⟨S, q, r, k5, ho5⟩ := hJ5.own))
    all_goals
      have HF : Hid (SigIs w (signsF a st b at_) (.returned (.tuple #[.slice S q r, .int .i64 0])) w5) := Lib.hid ⟨S, q, r, rfl, by rw [HS2.out]; exact Own.lower ho5 (by have := HSZ.out; omega), HX.out.trans hx5⟩
      clear hJ5 k5 ho5 hJ4 hx4 k31
      go_simp
      go_wp2_with fail
      go_ret2
      exact HF.out
end Go.Proofs.Ythphlghblmindaa
