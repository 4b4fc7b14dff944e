/-
  The walk of KeysFront.
-/
import Derived.Test.YtpgffhmcangllaaKeyO
import Derived.Test.YtpgffhmcangllaaConcB
import Derived.Test.YtpgffhmcangllaaLib
namespace Go.Proofs.Ytpgffhmcangllaa
open Go.RowKit
set_option linter.unusedVariables false
set_option linter.unusedSimpArgs false

theorem Cms.ext {w w' : World} {A : Option Addr} {n c : Nat} {l : List Cm} (h : Cms w A n c l) (he : Ext w w') : Cms w' A n c l := Rd.ext h he
theorem Cms.front {w : World} {A : Option Addr} {n c : Nat} {l m : List Cm} (h : Cms w A n c (l ++ m)) : Cms w A l.length c l := by
  have hl := Cms.len h
  rw [List.length_append] at hl
  obtain ⟨h1, h2, h3, h4⟩ := h
  refine ⟨by rw [rowC_len]; omega, by omega, h3, fun h0 => ?_⟩
  obtain ⟨ad, e, hc⟩ := h4 (by omega)
  refine ⟨ad, e, fun j u hj => hc j u ?_⟩
  have hlt : j < (rowC l).length := by
    rcases Nat.lt_or_ge j (rowC l).length with h | h
    · exact h
    · rw [List.getElem?_eq_none h] at hj; cases hj
  have : rowC (l ++ m) = rowC l ++ rowC m := by simp [rowC]
  rw [this, List.getElem?_append_left hlt]
  exact hj
theorem lit_3d : (allA (chars ⟨#[51, 100]⟩)).out.length = 0 ∧ (allA (chars ⟨#[51, 100]⟩)).p = ⟨3, 0, 100, 0, 0⟩ ∧ (allA (chars ⟨#[51, 100]⟩)).wrong = 0 := by
  refine ⟨by decide +kernel, ?_, by decide +kernel⟩
  have e1 : (allA (chars ⟨#[51, 100]⟩)).p.first = 3 := by decide +kernel
  have e2 : (allA (chars ⟨#[51, 100]⟩)).p.reg = 0 := by decide +kernel
  have e3 : (allA (chars ⟨#[51, 100]⟩)).p.op = 100 := by decide +kernel
  have e4 : (allA (chars ⟨#[51, 100]⟩)).p.second = 0 := by decide +kernel
  have e5 : (allA (chars ⟨#[51, 100]⟩)).p.wait = 0 := by decide +kernel
  rcases h : (allA (chars ⟨#[51, 100]⟩)).p with ⟨a, b, c, d, e⟩
  rw [h] at e1 e2 e3 e4 e5
  simp only at e1 e2 e3 e4 e5
  rw [e1, e2, e3, e4, e5]

theorem lit_two {w : World} {t : Nat} (u v : Value) : Rd (w.alloc (.cells #[u, v] t)) 1 (some ⟨w.heap.size, 0, none⟩) 2 2 [u, v] := by
  refine ⟨rfl, Nat.le_refl _, by unfold maxLen; omega, fun _ => ⟨_, rfl, fun j x hj => ?_⟩⟩
  have e1 : (⟨w.heap.size, 0, none⟩ : Addr).add j = ⟨w.heap.size, j, none⟩ := by simp [Addr.add_lit]
  rw [e1, (Blk.new w t #[u, v]).cell j]
  simpa using hj
theorem stepF (a : Al) (b : List Int) : ∀ j, j < b.length → foldA a (b.take (j + 1)) = stepA (foldA a (b.take j)) (gI b j) := fun j h => by
  rw [List.take_succ_eq_append_getElem h, foldA_app]
  simp [foldA, gI, List.getElem?_eq_getElem h]
set_option maxRecDepth 20000 in
set_option maxHeartbeats 8000000 in
theorem keysFront_walk {a b : List Int} {A B : Option Addr} {n m d1 d2 : Nat} {w : World} (ha : Ints w A n d1 a) (hA : A = none → d1 = 0) (hb : Ints w B m d2 b) (hB : B = none → d2 = 0) (hn : n ≤ 1048576) (hm : m ≤ 1048576) :
    Calls Try.prog 3 #[.slice A n d1, .slice B m d2] w fun e w' => e = .returned (.bool true) ∧ Ext w w' := by
  have HOf := Lib.hid (of_ok ⟨#[51, 100]⟩ w (by decide))
  have HIa := Lib.hid ha
  have HIb := Lib.hid hb
  clear ha hb
  go_enter Try.func3, Try.ntmps3
  go_wp2_with fail
  refine HOf.out.mono ?_
  rintro e w1 ⟨A1, c1, rfl, o1, he1⟩
  have HAl := Lib.hid (all_ok o1.ints (by decide))
  obtain ⟨l1, l2, l3⟩ := lit_3d
  rw [l2, l3] at HAl
  unfold ptV at HAl
  simp only at HAl
  clear HOf o1 l2 l3
  go_wp2_with fail
  refine HAl.out.mono ?_
  rintro e w2 ⟨O2, q2, c2, rfl, r2, he2⟩
  obtain rfl : q2 = 0 := by
    have h9 := Rd.len r2
    rw [rowC_len, l1] at h9
    omega
  have hx2 := (he1.trans he2).trans (Ext.alloc w2 (.cells #[.int .i64 3, .int .i64 0, .int .i64 100, .int .i64 0, .int .i64 0] 25))
  clear HAl r2 l1 he1 he2
  have HAa := Lib.hid (all_ok (HIa.out.ext hx2) (by omega))
  have Hfo := Lib.hid (fold_ok b (allA a) (all_ok' a).1)
  have Hab : Hid (foldA (allA a) b = allA (a ++ b)) := Lib.hid (by unfold allA; rw [foldA_app])
  have Hal := Lib.hid (all_ok' a)
  rcases hA1 : allA a with ⟨ma, ⟨f0, f1, f2, f3, f4⟩, wa⟩
  rw [hA1] at HAa Hfo Hab Hal
  unfold ptV at HAa
  simp only at HAa Hfo Hal
  clear hA1
  go_wp2_with fail
  refine HAa.out.mono ?_
  rintro e w3 ⟨O3, q3, c3, rfl, r3, he3⟩
  have hx3 := hx2.trans he3
  have hgz := hx3.hsize
  have ea := Ext.alloc w3 (.cells #[.int .i64 f0, .int .i64 f1, .int .i64 f2, .int .i64 f3, .int .i64 f4] 25)
  have eb := Ext.alloc (w3.alloc (.cells #[.int .i64 f0, .int .i64 f1, .int .i64 f2, .int .i64 f3, .int .i64 f4] 25)) (.cells #[.slice A n d1, .slice B m d2] 22)
  have h9 := (Blk.new w3 25 #[.int .i64 f0, .int .i64 f1, .int .i64 f2, .int .i64 f3, .int .i64 f4]).ext eb
  have hx4 := hx3.trans (ea.trans eb)
  have hS : Rd ((w3.alloc (.cells #[.int .i64 f0, .int .i64 f1, .int .i64 f2, .int .i64 f3, .int .i64 f4] 25)).alloc (.cells #[.slice A n d1, .slice B m d2] 22)) 1 (some ⟨w3.heap.size + 1, 0, none⟩) 2 2 [.slice A n d1, .slice B m d2] := by
    have h := lit_two (w := w3.alloc (.cells #[.int .i64 f0, .int .i64 f1, .int .i64 f2, .int .i64 f3, .int .i64 f4] 25)) (t := 22) (.slice A n d1) (.slice B m d2)
    rwa [show (w3.alloc (.cells #[.int .i64 f0, .int .i64 f1, .int .i64 f2, .int .i64 f3, .int .i64 f4] 25)).heap.size = w3.heap.size + 1 by simp] at h
  have hfl : ([a, b] : List (List Int)).flatten = a ++ b := by simp
  have hla := HIa.out.len
  have hlb := HIb.out.len
  have HCo := Lib.hid (concat_big hS (ListsN.two (HIa.out.ext hx4) hA (HIb.out.ext hx4) hB) rfl (by rw [hfl, List.length_append]; omega))
  rw [hfl] at HCo
  have R3 := Lib.hid (Cms.ext r3 (ea.trans eb))
  have H9 := Lib.hid h9
  have hlab : Hid ((a ++ b).length ≤ 4194304) := Lib.hid (by rw [List.length_append]; omega)
  clear HAa hx2 he3 hx3 ea eb h9 hS hfl r3 hla hlb
  go_wp2_with fail
  refine HCo.out.mono ?_
  rintro e w4 ⟨C, nc, dc, rfl, oC, he4⟩
  have hx5 := hx4.trans he4
  have R4 := Lib.hid (Cms.ext R3.out he4)
  have H94 := Lib.hid (H9.out.ext he4)
  have HAb := Lib.hid (all_ok oC.ints (by rw [← oC.ints.len]; exact hlab.out))
  obtain ⟨hg9, hg9'⟩ : w.heap.size ≤ w3.heap.size ∧ w3.heap.size < w4.heap.size := ⟨hgz, H94.out.lt⟩
  clear HCo R3 H9 hx4 he4 hgz
  generalize w3.heap.size = g9 at *
  have hF := Lib.hid (stepF (⟨ma, ⟨f0, f1, f2, f3, f4⟩, wa⟩ : Al) b)
  have hFok := Lib.hid (fun j => fold_ok (b.take j) (⟨ma, ⟨f0, f1, f2, f3, f4⟩, wa⟩ : Al) Hal.out.1)
  have hF0 : Hid (foldA (⟨ma, ⟨f0, f1, f2, f3, f4⟩, wa⟩ : Al) (b.take 0) = ⟨ma, ⟨f0, f1, f2, f3, f4⟩, wa⟩) := Lib.hid (by simp [foldA])
  have hFm : Hid (foldA (⟨ma, ⟨f0, f1, f2, f3, f4⟩, wa⟩ : Al) (b.take m) = allA (a ++ b)) := Lib.hid (by rw [List.take_of_length_le (by rw [HIb.out.len]; exact Nat.le_refl _)]; exact Hab.out)
  rw [Hab.out] at Hfo
  generalize ha0 : (⟨ma, ⟨f0, f1, f2, f3, f4⟩, wa⟩ : Al) = a0 at hF hFok hF0 hFm
  have Ha0 := Lib.hid ha0
  clear ha0 Hab oC
  rcases hA2 : allA (a ++ b) with ⟨mb, ⟨k0, k1, k2, k3, k4⟩, wb⟩
  rw [hA2] at HAb Hfo hFm
  unfold ptV at HAb
  simp only at HAb Hfo
  obtain ⟨Hchk, hle, hwa, mx, rfl⟩ := Hfo.out
  have HCh := fun w => Lib.hid (check_ok w Hchk)
  have Hle := Lib.hid hle
  have Hwa := Lib.hid hwa
  have Hla := Lib.hid (HIa.out.len)
  have Hlb := Lib.hid (HIb.out.len)
  unfold ptV at HCh
  simp only at HCh
  clear hA2 Hfo Hchk hle hwa
  go_wp2_with fail
  refine HAb.out.mono ?_
  rintro e w5 ⟨O5, q5, c5, rfl, r5, he5⟩
  have hx6 := hx5.trans he5
  have R5 := Lib.hid (Cms.ext (R4.out) he5)
  have H95 := Lib.hid (H94.out.ext he5)
  have M5 := Lib.hid (show Cms w5 O5 q5 c5 (ma ++ mx) from r5)
  have hl3 := Lib.hid (R5.out.len)
  have hl5 := Lib.hid (M5.out.len)
  have hs5 := he5.hsize
  have ea := Ext.alloc w5 (.cells #[.int .i64 k0, .int .i64 k1, .int .i64 k2, .int .i64 k3, .int .i64 k4] 25)
  have h12 := Blk.new w5 25 #[.int .i64 k0, .int .i64 k1, .int .i64 k2, .int .i64 k3, .int .i64 k4]
  have R6 := Lib.hid (Cms.ext R5.out ea)
  have M6 := Lib.hid (Cms.ext M5.out ea)
  have H96 := Lib.hid (H95.out.ext ea)
  have H12 := Lib.hid h12
  have hx7 := hx6.trans ea
  have hg10 : g9 < w5.heap.size := by omega
  have HEq := Lib.hid (equalC_same R6.out (M6.out.front))
  have hn1 : ma.length = q3 := hl3.out
  have hn2 : ma.length + mx.length = q5 := by rw [← List.length_append]; exact hl5.out
  rw [hn1] at HEq
  have hm0 : ma.length + wa ≤ n := by rw [← Hla.out]; exact Hal.out.2
  have hm1 : q5 + wb ≤ q3 + wa + m := by
    have h1 := Hle.out
    rw [hl5.out, hn1, Hlb.out] at h1
    exact h1
  have hm2 : wa ≤ wb := Hwa.out
  have hm3 : q3 ≤ q5 := by omega
  have hm4 : q3 ≤ c5 := by have := Rd.ncap M6.out; omega
  have hm5 : q3 + wa ≤ n := by omega
  clear HAb hx5 R4 H94 hx6 R5 H95 M5 ea h12 r5 he5 hs5 R6 M6 hm0 hn1 hn2 hl3 hl5 Hla Hlb Hle Hwa
  go_wp2_with fail
  refine HEq.out.mono ?_
  rintro e w7 ⟨rfl, he7⟩
  have hx8 := hx7.trans he7
  have H97 := Lib.hid (H96.out.ext he7)
  have H127 := Lib.hid (H12.out.ext he7)
  generalize hg12 : w5.heap.size = g12 at *
  clear HEq H96 H12 hx7 he7
  go_wp2_with fail
  rename_i hcond K9 a9
  have z1 : decide (q5 < q3) = false := by simp; omega
  have z2 : decide (wb < wa) = false := by simp; omega
  have z3 : decide ((m : Int) < (q5 : Int) - q3 + wb - wa) = false := by simp; omega
  simp only [z1, z2, z3, Bool.false_or]
  clear hcond z1 z2 z3
  clear hm1 hm2 hm3 hm4 hm5 hlab Hal hg9'
  have HW := Lib.hid hx8
  have Hblen : Hid (b.length = m) := Lib.hid HIb.out.len
  have HB0 : Hid (PtAt w7 g9 (foldA a0 (b.take 0)).p) := Lib.hid (by rw [hF0.out, ← Ha0.out]; exact H97.out)
  have HB1 : Hid (Blk w7 g12 25 #[.int .i64 k0, .int .i64 k1, .int .i64 k2, .int .i64 k3, .int .i64 k4]) := Lib.hid H127.out
  clear hx8 H97 H127 hF0 hg12 Ha0
  go_loopw [88] (fun iv wr => ∃ j : Nat, j ≤ m ∧ iv = .int .i64 j ∧ Hid (PtAt wr g9 (foldA a0 (b.take j)).p) ∧ Hid (Blk wr g12 25 #[.int .i64 k0, .int .i64 k1, .int .i64 k2, .int .i64 k3, .int .i64 k4]) ∧ Ext w wr) (fun iv _ => m - (intOf iv).toNat)
  case atStart => exact ⟨0, by omega, rfl, HB0, HB1, HW.out⟩
  case round =>
    clear HB0 HB1 HW
    obtain ⟨j, hj, rfl, H9, H12, he⟩ := hrel
    by_cases hlt : j < m
    · obtain ⟨ad, rfl, hc⟩ := HIb.out.at_ hlt
      have d1 := he.cell (hc j hlt)
      have Hsn := Lib.hid (hF.out j (by rw [Hblen.out]; exact hlt))
      have hok := (hFok.out j).1
      have HT := Lib.hid (take_ok (k := gI b j) wr hok)
      obtain ⟨hk1, hk2, hk3, hk4⟩ := take_keeps (k := gI b j) hok
      unfold PtAt at H9
      unfold ptV tkV ptV cmV at HT
      rcases hA : foldA a0 (b.take j) with ⟨out, p0, wrong⟩
      rw [hA] at H9 HT Hsn hk2 hk3 hk4
      simp only at H9 HT hk2 hk3 hk4
      obtain ⟨f0, f1, f2, f3, f4⟩ := p0
      rcases ht : takeK ⟨f0, f1, f2, f3, f4⟩ (gI b j) with ⟨tp, tc, th⟩
      unfold stepA at Hsn
      simp only at Hsn
      rw [ht] at HT Hsn hk2 hk3 hk4
      obtain ⟨p0, p1, p2, p3, p4⟩ := tp
      obtain ⟨u0, u1, u2, u3, u4⟩ := tc
      simp only at HT Hsn H9 hk2 hk3 hk4
      have Hk3 := Lib.hid hk3
      have Hk4 := Lib.hid hk4
      obtain ⟨⟨c0, c1, c2, c3, c4⟩, ⟨g0, g1, g2, g3, g4⟩⟩ := H9.out.five
      clear hok hk1 hk3 hk4 hA ht hc
      go_wp2_with fail
      refine HT.out.mono ?_
      rintro e w2 ⟨rfl, he2⟩
      have HD9 := Lib.hid (H9.out.ext he2)
      have HD12 := Lib.hid (Blk.ext H12.out he2)
      have hlt9 := HD9.out.lt
      have ea := (Ext.alloc w2 (.cells #[.int .i64 p0, .int .i64 p1, .int .i64 p2, .int .i64 p3, .int .i64 p4] 25)).to_alloc (.cells #[.int .i64 u0, .int .i64 u1, .int .i64 u2, .int .i64 u3, .int .i64 u4] 32)
      have HB9 := Lib.hid (set5 (.int .i64 p0) (.int .i64 p1) (.int .i64 p2) (.int .i64 p3) (.int .i64 p4) (HD9.out.ext ea))
      have HB12 := Lib.hid (set5_other (.int .i64 p0) (.int .i64 p1) (.int .i64 p2) (.int .i64 p3) (.int .i64 p4) (Blk.ext HD12.out ea) (show g9 ≠ g12 by omega))
      have HE := Lib.hid (set5_ext (.int .i64 p0) (.int .i64 p1) (.int .i64 p2) (.int .i64 p3) (.int .i64 p4) ((he.trans he2).trans ea) hg9)
      obtain ⟨⟨x0, x1, x2, x3, x4⟩, ⟨y0, y1, y2, y3, y4⟩⟩ := (HD9.out.ext ea).five
      have n1 : ¬ g9 = w2.heap.size := by omega
      have n2 : ¬ w2.heap.size = g9 := by omega
      have n3 : ¬ g9 = w2.heap.size + 1 := by omega
      have n4 : ¬ w2.heap.size + 1 = g9 := by omega
      clear HT H9 H12 he he2 d1 c0 c1 c2 c3 c4 g0 g1 g2 g3 g4 hlt9 HD9 HD12 ea
      clear HIa hA hFok hF hFm HCh Hblen HIb hB
      rcases hk2 with rfl | rfl | rfl
      · by_cases hpp : p0 = f0 ∧ p1 = f1 ∧ p2 = f2 ∧ p3 = f3 ∧ p4 = f4
        · obtain ⟨rfl, rfl, rfl, rfl, rfl⟩ := hpp
          have h9 := Hk4.out rfl rfl
          clear Hk3 Hk4
          by_cases hf0 : p0 = 999
          · have hf1 : decide (p0 < 999) = false := by simp; omega
            have hf2 : ¬ p0 < 999 := by omega
            clear h9 hf0
            go_wp2_with fail
            go_roundw
            case rel => exact ⟨j + 1, by omega, by go_num, Lib.hid (by rw [Hsn.out]; exact HB9.out), HB12, HE.out⟩
            case measure => simp [intOf]; omega
          · obtain rfl : p3 = 999 := by rcases h9 with h | h; exact absurd h hf0; exact h
            clear h9 hf0
            by_cases hf1 : p0 < 999
            · have hf2 : decide (p0 < 999) = true := by simp; omega
              go_wp2_with fail
              go_roundw
              case rel => exact ⟨j + 1, by omega, by go_num, Lib.hid (by rw [Hsn.out]; exact HB9.out), HB12, HE.out⟩
              case measure => simp [intOf]; omega
            · have hf2 : decide (p0 < 999) = false := by simp; omega
              go_wp2_with fail
              go_roundw
              case rel => exact ⟨j + 1, by omega, by go_num, Lib.hid (by rw [Hsn.out]; exact HB9.out), HB12, HE.out⟩
              case measure => simp [intOf]; omega
        · clear Hk3 Hk4
          rcases ne5 hpp with hne | ⟨rfl, hne⟩ | ⟨rfl, rfl, hne⟩ | ⟨rfl, rfl, rfl, hne⟩ | ⟨rfl, rfl, rfl, rfl, hne⟩
          all_goals clear hpp
          · have hn : ¬ p0 = f0 := hne
            have hnb : (p0 == f0) = false := by simpa using hne
            clear hne
            go_wp2_with fail
            go_roundw
            case rel => exact ⟨j + 1, by omega, by go_num, Lib.hid (by rw [Hsn.out]; exact HB9.out), HB12, HE.out⟩
            case measure => simp [intOf]; omega
          · have hn : ¬ p1 = f1 := hne
            have hnb : (p1 == f1) = false := by simpa using hne
            clear hne
            go_wp2_with fail
            go_roundw
            case rel => exact ⟨j + 1, by omega, by go_num, Lib.hid (by rw [Hsn.out]; exact HB9.out), HB12, HE.out⟩
            case measure => simp [intOf]; omega
          · have hn : ¬ p2 = f2 := hne
            have hnb : (p2 == f2) = false := by simpa using hne
            clear hne
            go_wp2_with fail
            go_roundw
            case rel => exact ⟨j + 1, by omega, by go_num, Lib.hid (by rw [Hsn.out]; exact HB9.out), HB12, HE.out⟩
            case measure => simp [intOf]; omega
          · have hn : ¬ p3 = f3 := hne
            have hnb : (p3 == f3) = false := by simpa using hne
            clear hne
            go_wp2_with fail
            go_roundw
            case rel => exact ⟨j + 1, by omega, by go_num, Lib.hid (by rw [Hsn.out]; exact HB9.out), HB12, HE.out⟩
            case measure => simp [intOf]; omega
          · have hn : ¬ p4 = f4 := hne
            have hnb : (p4 == f4) = false := by simpa using hne
            clear hne
            go_wp2_with fail
            go_roundw
            case rel => exact ⟨j + 1, by omega, by go_num, Lib.hid (by rw [Hsn.out]; exact HB9.out), HB12, HE.out⟩
            case measure => simp [intOf]; omega
      · obtain ⟨rfl, rfl, rfl, rfl, rfl⟩ : p0 = 0 ∧ p1 = 0 ∧ p2 = 0 ∧ p3 = 0 ∧ p4 = 0 := by
          have h := Hk3.out (by decide)
          unfold Pt.zero at h
          injection h with h0 h1 h2 h3 h4
          exact ⟨h0, h1, h2, h3, h4⟩
        clear Hk3 Hk4
        go_wp2_with fail
        go_roundw
        case rel => exact ⟨j + 1, by omega, by go_num, Lib.hid (by rw [Hsn.out]; exact HB9.out), HB12, HE.out⟩
        case measure => simp [intOf]; omega
      · obtain ⟨rfl, rfl, rfl, rfl, rfl⟩ : p0 = 0 ∧ p1 = 0 ∧ p2 = 0 ∧ p3 = 0 ∧ p4 = 0 := by
          have h := Hk3.out (by decide)
          unfold Pt.zero at h
          injection h with h0 h1 h2 h3 h4
          exact ⟨h0, h1, h2, h3, h4⟩
        clear Hk3 Hk4
        go_wp2_with fail
        go_roundw
        case rel => exact ⟨j + 1, by omega, by go_num, Lib.hid (by rw [Hsn.out]; exact HB9.out), HB12, HE.out⟩
        case measure => simp [intOf]; omega
    · obtain rfl : j = m := by omega
      rw [hFm.out] at H9
      unfold PtAt at H9
      simp only at H9
      obtain ⟨⟨c0, c1, c2, c3, c4⟩, _⟩ := H9.out.five
      obtain ⟨⟨x0, x1, x2, x3, x4⟩, _⟩ := H12.out.five
      have HC := HCh wr
      clear H9 H12 hFm hF hFok HCh
      go_wp2_with fail
      refine HC.out.mono ?_
      rintro e w2 ⟨rfl, he2⟩
      have he3 := he.trans he2
      clear HC
      go_wp2_with fail
      go_ret
      exact ⟨rfl, he3⟩
end Go.Proofs.Ytpgffhmcangllaa
