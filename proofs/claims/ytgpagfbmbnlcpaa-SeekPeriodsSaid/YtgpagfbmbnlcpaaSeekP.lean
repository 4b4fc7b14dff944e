/-
  The walk of the statement on periods (Fine, Wilf), and the plain law behind it.
-/
import Derived.Test.YtgpagfbmbnlcpaaSeekL1
namespace Go.Proofs.Ytgpagfbmbnlcpaa
open Go.RowKit
set_option linter.unusedVariables false

theorem aa_eq : blist (chars ⟨#[97, 97]⟩) = [0, 1] := by decide +kernel

/-- p is a period of the first n numbers. -/
def per (l : List Int) (n p : Nat) : Prop := ∀ x, x < n → p ≤ x → gI l x = gI l (x - p)

theorem per_mod {l : List Int} {n g : Nat} (hg : 0 < g) (h : per l n g) : ∀ x, x < n → gI l x = gI l (x % g) := by
  intro x
  induction x using Nat.strongRecOn with
  | _ x ih =>
    intro hx
    rcases Nat.lt_or_ge x g with h1 | h1
    · rw [Nat.mod_eq_of_lt h1]
    · rw [h x hx h1, ih (x - g) (by omega) (by omega), ← Nat.mod_eq_sub_mod h1]
theorem mod_per {l : List Int} {n g : Nat} (h : ∀ x, x < n → gI l x = gI l (x % g)) : per l n g := by
  intro x hx hg
  rw [h x hx, h (x - g) (by omega), ← Nat.mod_eq_sub_mod hg]

theorem fine_wilf {l : List Int} : ∀ (s a b n : Nat), a + b ≤ s → 0 < a → 0 < b → per l n a → per l n b → a + b ≤ n + Nat.gcd a b → per l n (Nat.gcd a b) := by
  intro s
  induction s with
  | zero => intro a b n h; omega
  | succ s ih =>
    -- the greater one first
    have key : ∀ a b n, a + b ≤ s + 1 → 0 < b → b < a → per l n a → per l n b → a + b ≤ n + Nat.gcd a b → per l n (Nat.gcd a b) := by
      intro a b n hs hb hab pa pb hn
      have hgcd : Nat.gcd (a - b) b = Nat.gcd a b := Nat.gcd_sub_self_left (by omega)
      have hgb : Nat.gcd a b ≤ b := Nat.gcd_le_right _ hb
      have hg0 : 0 < Nat.gcd a b := Nat.gcd_pos_of_pos_right _ hb
      have hga : Nat.gcd a b ≤ a - b := by rw [← hgcd]; exact Nat.gcd_le_left _ (by omega)
      have p1 : per l (n - b) (a - b) := by
        intro x hx hxa
        have e1 := pa (x + b) (by omega) (by omega)
        have e2 := pb (x + b) (by omega) (by omega)
        rw [Nat.add_sub_cancel] at e2
        rw [← e2, e1]
        congr 1
        omega
      have p2 : per l (n - b) b := fun x hx hxb => pb x (by omega) hxb
      have p3 := ih (a - b) b (n - b) (by omega) (by omega) hb p1 p2 (by rw [hgcd]; omega)
      rw [hgcd] at p3
      refine mod_per fun x hx => ?_
      rcases Nat.lt_or_ge x (n - b) with h1 | h1
      · exact per_mod hg0 p3 x h1
      · have hxb : b ≤ x := by omega
        rw [pb x hx hxb, per_mod hg0 p3 (x - b) (by omega)]
        congr 1
        obtain ⟨c, hc⟩ := Nat.gcd_dvd_right a b
        have : x = (x - b) + Nat.gcd a b * c := by omega
        conv => rhs; rw [this, Nat.add_mul_mod_self_left]
    intro a b n hs ha hb pa pb hn
    rcases Nat.lt_trichotomy a b with h | h | h
    · rw [Nat.gcd_comm]
      exact key b a n (by omega) ha h pb pa (by rw [Nat.gcd_comm]; omega)
    · subst h
      rw [Nat.gcd_self]
      exact pa
    · exact key a b n hs hb h pa pb hn

theorem bor_per {l : List Int} {n k : Nat} (h : bor l n k) : per l n (n - k) := by
  intro x hx hk
  have := h.1
  rw [h.2 (x - (n - k)) (by omega)]
  congr 1
  omega
theorem per_bor {l : List Int} {n p : Nat} (hp : 0 < p) (hn : p ≤ n) (h : per l n p) : bor l n (n - p) := by
  refine ⟨by omega, fun j hj => ?_⟩
  have := h (p + j) (by omega) (by omega)
  rw [Nat.add_sub_cancel_left] at this
  rw [← this]
  congr 1
  omega

/-- What the statement keeps of the periods: n, and what the borders S leave. -/
def perS (n : Nat) (S : List Nat) : List Nat := S.map (n - ·) ++ [n]
theorem perF_start (n : Nat) (x : Int) : updF noF n 1 x = inF (perS n []) x := by
  unfold updF inF perS noF
  by_cases h : x = (n : Int)
  · subst h; simp
  · rw [if_neg h]
    have : (n : Int) ≠ x := fun e => h e.symm
    simp [this]
theorem perF_cons (n : Nat) (S : List Nat) (k : Nat) (x : Int) : updF (inF (perS n S)) ((n - k : Nat) : Int) 1 x = inF (perS n (k :: S)) x := by
  rw [inF_cons]; rfl
theorem perF_end {l : List Int} {n : Nat} {S : List Nat} (h : metB l n 0 S) (hS : ∀ k ∈ S, 0 < k ∧ k < n) {x : Nat} (hx : 0 < x) (hxn : x ≤ n) : (inF (perS n S) x = 1 ↔ per l n x) ∧ (inF (perS n S) x = 1 ∨ inF (perS n S) x = 0) := by
  have hmem : (∃ j ∈ perS n S, (j : Int) = x) ↔ per l n x := by
    constructor
    · rintro ⟨j, hj, e⟩
      obtain rfl : j = x := by omega
      rcases List.mem_append.1 hj with h1 | h1
      · obtain ⟨k, hk, rfl⟩ := List.mem_map.1 h1
        exact bor_per ((h k (hS k hk).1).2 (.inl hk))
      · obtain rfl := List.mem_singleton.1 h1
        intro y hy hy'
        omega
    · intro hp
      refine ⟨x, List.mem_append.2 ?_, rfl⟩
      rcases Nat.lt_or_ge x n with h1 | h1
      · left
        have hb := per_bor hx hxn hp
        rcases (h (n - x) (by omega)).1 hb with h2 | h2 | h2
        · exact List.mem_map.2 ⟨n - x, h2, by omega⟩
        · omega
        · have := h2.1; omega
      · right
        simp; omega
  unfold inF
  by_cases hp : per l n x
  · rw [if_pos (hmem.2 hp)]; simp [hp]
  · rw [if_neg (fun e => hp (hmem.1 e))]; simp [hp]

theorem mem_step {S : List Nat} {n k : Nat} (h : ∀ j ∈ S, 0 < j ∧ j < n) (h1 : 0 < k) (h2 : k < n) : ∀ j ∈ k :: S, 0 < j ∧ j < n := by
  intro j hj
  rcases List.mem_cons.1 hj with e | e
  · subst e; exact ⟨h1, h2⟩
  · exact h j e

set_option maxHeartbeats 2000000 in
theorem seekPeriods_walk {l : List Int} {A : Option Addr} {n c : Nat} {a b : Int} {w : World} (hl : Ints w A n c l) (wa : (Lit.int .i64 a).wf = true) (wb : (Lit.int .i64 b).wf = true) :
    Calls Try.prog 4 #[.slice A n c, .int .i64 a, .int .i64 b] w fun e w' => e = .returned (.bool true) ∧ Ext w w' := by
  have hmm := @run_makeMap Try.prog
  have hcm := hl.nmax
  have hnc := hl.ncap
  unfold maxLen at hcm
  have q1 : eqB [0, 1] [0, 1] = true := by decide
  go_enter Try.func4, Try.ntmps4
  go_wp2_with fail
  refine (of_ok _ _ (by decide)).mono ?_
  rintro e w1 ⟨A1, c1, rfl, ho1, he1⟩
  go_wp2_with fail
  refine (borders_ints ho1.ints (by decide)).mono ?_
  rintro e w2 ⟨B1, rfl, hb1, he2⟩
  rw [aa_eq] at hb1
  go_wp2_with fail
  refine (equal_ext (hb1.ext (Ext.alloc _ _)) (Blk.ints (l := [0, 1]) (Blk.new _ _ _) rfl (by decide))).mono ?_
  rintro e w3 ⟨rfl, he3⟩
  have he : Ext w w3 := he1.trans (he2.trans ((Ext.alloc _ _).trans he3))
  clear he1 he2 he3 hb1 ho1
  go_wp2_with fail
  by_cases hn : n ≤ 4096
  · refine (borders_ints (hl.ext he) hn).mono ?_
    rintro e w4 ⟨B, rfl, hb, he4⟩
    have hee := he.trans he4
    clear he he4
    rcases Nat.eq_zero_or_pos n with h0 | h0
    · subst h0
      go_wp2_with fail
      go_ret
      exact ⟨rfl, hee⟩
    · have hn0 : ((n : Int) == 0) = false := by simp; omega
      have hlen := Lib.hid hl.len
      obtain ⟨ad, rfl, hcell⟩ := hb.at_ h0
      obtain ⟨w5, hrun, hmap0, _, he5⟩ := (MapI.made w4).put Try.underlying28 (by unfold maxLen; omega) (n : Int) 1 (wf_i64 (by omega) (by omega)) (by decide) (Ext.alloc w4 _) (Nat.le_refl _)
      have hmap := hmap0.congr (perF_start n)
      have c0 : w5.cell? (ad.add (n - 1)) = some (.int .i64 (bl l n)) := by
        rw [← blist_get l (by rw [hlen.out]; exact Nat.le_refl _) h0]; exact he5.cell (hcell _ (by omega))
      clear hmap0
      go_wp2_with fail
      go_loopw [12] (fun k w6 => ∃ (kn cnt : Nat) (S : List Nat), k = .int .i64 kn ∧ kn < n ∧ Hid (metB l n kn S ∧ ∀ j ∈ S, 0 < j ∧ j < n) ∧ cnt + kn < n + 2 ∧ MapI w6 w4.heap.size cnt (inF (perS n S)) ∧ Ext w4 w6) (fun k _ => (intOf k).toNat)
      case atStart => exact ⟨bl l n, 1, [], rfl, bl_lt h0, ⟨metB_start h0, by simp⟩, by have := @bl_lt l n h0; omega, hmap, he5⟩
      case round =>
        clear c0 hmap he5
        obtain ⟨kn, cnt, S, rfl, hkn, hm, hcnt, hmap, he5⟩ := hrel
        by_cases hk : 0 < kn
        · have hkb := @bl_lt l kn hk
          go_wp2_with (at_mapUpdate; refine wpList_mapPut rfl (.tmp 67) (.tmp 71) (.const (.int .i64 1)) 28 rfl Try.underlying28 w4 w4.heap.size cnt _ rfl hmap ?_ ((n : Int) - kn) 1 rfl rfl ?_ ?_ he5 (Nat.le_refl _) ?_)
          · unfold maxLen; omega
          · exact wf_i64 (by omega) (by omega)
          · decide
          · intro w6 hmap6 _ he6
            have hmap7 : MapI w6 w4.heap.size (cnt + 1) (inF (perS n (kn :: S))) := by
              rw [show (n : Int) - kn = ((n - kn : Nat) : Int) by omega] at hmap6
              exact hmap6.congr (perF_cons n S kn)
            have c1 : w6.cell? (ad.add (kn - 1)) = some (.int .i64 (bl l kn)) := by
              rw [← blist_get l (by rw [hlen.out]; omega) hk]; exact he6.cell (hcell _ (by omega))
            clear hmap6 hmap he5
            go_wp2_with fail
            go_roundw
            case rel => exact ⟨bl l kn, cnt + 1, kn :: S, rfl, by omega, ⟨metB_step hm.out.1 hk, mem_step hm.out.2 hk hkn⟩, by omega, hmap7, he6⟩
            case measure => simp [intOf]; omega
        · obtain rfl : kn = 0 := by omega
          have e6 := hee.trans he5
          have hget : ∀ k : Int, (Lit.int .i64 k).wf = true → (Instr.lookup 28 (.map (some w4.heap.size)) (.int .i64 k) false).run Try.prog wr = .ok (.int .i64 (inF (perS n S) k)) wr := fun k hk => hmap.get Try.underlying28 hk
          have ga := hget a wa
          have gb := hget b wb
          by_cases t1 : a < 1
          · go_wp2_with fail
            go_ret
            exact ⟨rfl, e6⟩
          by_cases t2 : b < 1
          · go_wp2_with fail
            go_ret
            exact ⟨rfl, e6⟩
          by_cases t3 : (n : Int) < a
          · go_wp2_with fail
            go_ret
            exact ⟨rfl, e6⟩
          by_cases t4 : (n : Int) < b
          · go_wp2_with fail
            go_ret
            exact ⟨rfl, e6⟩
          obtain ⟨an, rfl⟩ := Int.eq_ofNat_of_zero_le (show 0 ≤ a by omega)
          obtain ⟨bn, rfl⟩ := Int.eq_ofNat_of_zero_le (show 0 ≤ b by omega)
          obtain ⟨pa, va⟩ := perF_end hm.out.1 hm.out.2 (x := an) (by omega) (by omega)
          obtain ⟨pb, vb⟩ := perF_end hm.out.1 hm.out.2 (x := bn) (by omega) (by omega)
          have a1 : 1 ≤ an := by omega
          have b1 : 1 ≤ bn := by omega
          have a2 : an ≤ n := by omega
          have b2 : bn ≤ n := by omega
          rcases va with va | va
          case inr =>
            rw [va] at ga
            clear pa pb va vb hget
            go_wp2_with fail
            go_ret
            exact ⟨rfl, e6⟩
          rcases vb with vb | vb
          case inr =>
            rw [va] at ga
            rw [vb] at gb
            clear pa pb va vb hget
            go_wp2_with fail
            go_ret
            exact ⟨rfl, e6⟩
          have PA := Lib.hid (pa.1 va)
          have PB := Lib.hid (pb.1 vb)
          rw [va] at ga
          rw [vb] at gb
          clear pa pb va vb hget t1 t2 t3 t4
          go_wp2_with fail
          go_loopw [13, 14] (fun g h w6 => ∃ gn hn : Nat, g = .int .i64 gn ∧ h = .int .i64 hn ∧ 0 < gn ∧ gn ≤ n ∧ hn ≤ n ∧ Hid (Nat.gcd gn hn = Nat.gcd an bn) ∧ ∃ q, w6 = wr.drewN q) (fun _ h _ => (intOf h).toNat)
          case atStart => exact ⟨an, bn, rfl, rfl, by omega, a2, b2, rfl, 0, rfl⟩
          case round =>
            clear ga gb
            obtain ⟨gn, hn', rfl, rfl, hg0, hgn, hhn, hgcd, q, rfl⟩ := hrel
            by_cases hh : 0 < hn'
            · have hmod : gn % hn' < hn' := Nat.mod_lt _ hh
              go_wp2_with fail
              go_quiet (fail)
              go_wp2_with fail
              go_roundw
              case rel => exact ⟨hn', gn % hn', rfl, by go_num, hh, by omega, by omega, by show Nat.gcd _ _ = _; rw [← hgcd.out, Nat.gcd_comm hn', ← Nat.gcd_rec, Nat.gcd_comm], _, drew2 _ _ _⟩
              case measure => simp [intOf]; omega
            · obtain rfl : hn' = 0 := by omega
              have hg : Hid (gn = Nat.gcd an bn) := by rw [← hgcd.out, Nat.gcd_zero_right]; rfl
              clear hgcd
              by_cases hlong : (n : Int) < an + bn - gn
              · go_wp2_with fail
                go_ret
                exact ⟨rfl, e6.to_drewN _⟩
              · have hper : Hid (per l n gn) := by
                  have := fine_wilf (l := l) (an + bn) an bn n (Nat.le_refl _) (by omega) (by omega) PA.out PB.out (by rw [← hg.out]; omega)
                  rw [← hg.out] at this
                  exact this
                obtain ⟨pg, vg⟩ := perF_end hm.out.1 hm.out.2 (x := gn) hg0 hgn
                have gg : ∀ z, (Instr.lookup 28 (.map (some w4.heap.size)) (.int .i64 gn) false).run Try.prog (wr.drewN z) = .ok (.int .i64 1) (wr.drewN z) := fun z => by
                  rw [(hmap.ext (Ext.drewN _ z)).get Try.underlying28 (wf_i64 (by omega) (by omega)), pg.2 hper.out]
                clear pg vg
                obtain ⟨a0, rfl, hc0⟩ := hl.at_ h0
                go_wp2_with fail
                go_loopw [15] (fun i w6 => ∃ k : Nat, i = .int .i64 k ∧ gn ≤ k ∧ k ≤ n ∧ ∃ q, w6 = wr.drewN q) (fun i _ => n - (intOf i).toNat)
                case atStart => exact ⟨gn, rfl, Nat.le_refl _, hgn, _, rfl⟩
                case round =>
                  obtain ⟨k, rfl, hk1, hk2, q2, rfl⟩ := hrel
                  by_cases hlt : k < n
                  · have x1 := e6.cell (hc0 k hlt)
                    have x2 := e6.cell (hc0 (k - gn) (by omega))
                    have x3 : (gI l k != gI l (k - gn)) = false := by rw [hper.out k hlt hk1]; simp
                    go_wp2_with fail
                    go_quiet (fail)
                    go_wp2_with fail
                    go_roundw
                    case rel => exact ⟨k + 1, by go_num, by omega, by omega, q2 + nq, rfl⟩
                    case measure => simp [intOf]; omega
                  · go_wp2_with fail
                    go_ret
                    exact ⟨rfl, e6.to_drewN _⟩
  · refine (borders_large (by omega) (by unfold maxLen; omega)).mono ?_
    rintro e w4 ⟨rfl, rfl⟩
    go_wp2_with fail
    go_ret
    exact ⟨rfl, he⟩
end Go.Proofs.Ytgpagfbmbnlcpaa
