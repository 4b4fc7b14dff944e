/-
  rope.level, join: the walks.
-/
import Derived.Test.YthljopjpjjaadaaRopeLa
import Derived.Test.YthljopjpjjaadaaRopeLb
import Derived.Test.YthljopjpjjaadaaRopeLc
import Derived.Test.YthljopjpjjaadaaRopeLd
namespace Go.Proofs.Ythljopjpjjaadaa
open Go.RowKit
set_option linter.unusedVariables false
set_option linter.unusedSimpArgs false

theorem level_ok {l r : Tr} {lv rv : Option Addr} {c : Int} {w : World} (hl : TreeAt w lv l) (hr : TreeAt w rv r) (hz : l.sz + r.sz ≤ 100000) :
    Calls Try.prog 32 #[.pointer lv, .int .i64 c, .pointer rv] w fun e w' => ∃ v, e = .returned (.pointer v) ∧ TreeAt w' v (Tr.level l c r) ∧ Ext w w' := by
  by_cases h1 : l.ht > r.ht + 1
  · cases l with
    | nil => simp [Tr.ht] at h1
    | node ll lc lr =>
      by_cases h2 : lr.ht ≤ ll.ht
      · rw [Tr.level_L1 h1 h2]; exact lv_L1 hl hr hz h1 h2
      · cases lr with
        | nil => simp [Tr.ht] at h2
        | node ml mc mr => rw [Tr.level_L2 h1 h2]; exact lv_L2 hl hr hz h1 h2
  · by_cases h3 : r.ht > l.ht + 1
    · cases r with
      | nil => simp [Tr.ht] at h3
      | node rl rc rr =>
        by_cases h2 : rl.ht ≤ rr.ht
        · rw [Tr.level_R1 h3 h2]; exact lv_R1 hl hr hz h3 h2
        · cases rl with
          | nil => simp [Tr.ht] at h2
          | node ml mc mr => rw [Tr.level_R2 h3 h2]; exact lv_R2 hl hr hz h3 h2
    · rw [Tr.level_M h1 h3]; exact lv_M hl hr hz h1 h3

def JoinP (f : Nat) : Prop := ∀ (l r : Tr) (lv rv : Option Addr) (c : Int) (w : World), TreeAt w lv l → TreeAt w rv r → l.sz + r.sz ≤ 50000 → l.sz + r.sz ≤ f → l.bal → r.bal →
    Calls Try.prog 30 #[.pointer lv, .int .i64 c, .pointer rv] w fun e w' => ∃ v, e = .returned (.pointer v) ∧ TreeAt w' v (Tr.joinF f l c r) ∧ Ext w w'

set_option maxHeartbeats 4000000 in
theorem join_M {l r : Tr} {lv rv : Option Addr} {c : Int} {w : World} (hl : TreeAt w lv l) (hr : TreeAt w rv r) (hz : l.sz + r.sz ≤ 100000) (h1 : ¬ l.ht > r.ht + 1) (h2 : ¬ r.ht > l.ht + 1) :
    Calls Try.prog 30 #[.pointer lv, .int .i64 c, .pointer rv] w fun e w' => ∃ v, e = .returned (.pointer v) ∧ TreeAt w' v (.node l c r) ∧ Ext w w' := by
  have H3 := Lib.hid (tall_ok hl)
  have H4 := Lib.hid (tall_ok hr)
  have hl1 := Tr.ht_le l
  have hr1 := Tr.ht_le r
  have HM := Lib.hid (made_ok (c := c) hl hr (by omega))
  have d1 : ¬ (r.ht : Int) + 1 < (l.ht : Int) := by omega
  have d2 : ¬ (l.ht : Int) + 1 < (r.ht : Int) := by omega
  have b1 : l.ht ≤ 100000 := by omega
  have b2 : r.ht ≤ 100000 := by omega
  clear hl hr hz hl1 hr1 h1 h2
  go_enter Try.func30, Try.ntmps30
  go_wp2_with fail
  refine H3.out.mono ?_
  rintro e w1 ⟨rfl, rfl⟩
  go_wp2_with fail
  refine H4.out.mono ?_
  rintro e w1 ⟨rfl, rfl⟩
  go_wp2_with fail
  refine H4.out.mono ?_
  rintro e w1 ⟨rfl, rfl⟩
  go_wp2_with fail
  refine H3.out.mono ?_
  rintro e w1 ⟨rfl, rfl⟩
  go_wp2_with fail
  refine HM.out.mono ?_
  rintro e w1 ⟨v, rfl, hv, he⟩
  go_wp2_with fail
  go_ret
  exact ⟨v, rfl, hv, he⟩

theorem joinF_sz {f : Nat} {l r : Tr} {c : Int} (h : l.sz + r.sz ≤ f) (bl : l.bal) (br : r.bal) : (Tr.joinF f l c r).sz = l.sz + 1 + r.sz := by
  have := (Tr.joinF_spec f (l := l) (r := r) (c := c) h bl br).2.1
  have h2 := congrArg List.length this
  rw [Tr.len, List.length_append, List.length_cons, Tr.len, Tr.len] at h2
  omega

set_option maxHeartbeats 8000000 in
theorem join_L {f : Nat} {ll lr r : Tr} {lv rv : Option Addr} {lc c : Int} {w : World} (IH : Hid (JoinP f)) (hl : TreeAt w lv (.node ll lc lr)) (hr : TreeAt w rv r) (hz : Tr.sz (.node ll lc lr) + r.sz ≤ 50000) (hf : Tr.sz (.node ll lc lr) + r.sz ≤ f + 1) (bl : Tr.bal (.node ll lc lr)) (br : r.bal) (h1 : (Tr.node ll lc lr).ht > r.ht + 1) :
    Calls Try.prog 30 #[.pointer lv, .int .i64 c, .pointer rv] w fun e w' => ∃ v, e = .returned (.pointer v) ∧ TreeAt w' v (Tr.level ll lc (Tr.joinF f lr c r)) ∧ Ext w w' := by
  have H3 := Lib.hid (tall_ok hl)
  have H4 := Lib.hid (tall_ok hr)
  have hl1 := Tr.ht_le (Tr.node ll lc lr)
  have hr1 := Tr.ht_le r
  have b1 : (Tr.node ll lc lr).ht ≤ 100000 := by omega
  have b2 : r.ht ≤ 100000 := by omega
  obtain ⟨g, la, ra, rfl, hb, tl, tr⟩ := tree_node hl
  obtain ⟨k0, k1, k2⟩ := cells_node hb
  have d1 : (r.ht : Int) + 1 < ((Tr.node ll lc lr).ht : Int) := by omega
  have hsz : (Tr.node ll lc lr).sz = ll.sz + 1 + lr.sz := rfl
  have HZ : Hid (ll.sz + 1 + lr.sz + r.sz ≤ 50000 ∧ lr.sz + r.sz ≤ f) := Lib.hid (by omega)
  have BL : Hid (lr.bal ∧ r.bal) := Lib.hid ⟨bl.2.1, br⟩
  have HSZ : Hid ((Tr.joinF f lr c r).sz = lr.sz + 1 + r.sz) := Lib.hid (joinF_sz (by omega) bl.2.1 br)
  have hxd := Ext.drew w
  have hl' := TreeAt.ext hxd tl
  have hr' := TreeAt.ext hxd tr
  have hrr' := TreeAt.ext hxd hr
  clear hl hr tl tr hb hz hl1 hr1 hf bl br hsz h1
  go_enter Try.func30, Try.ntmps30
  go_wp2_with fail
  refine H3.out.mono ?_
  rintro e w1 ⟨rfl, rfl⟩
  go_wp2_with fail
  refine H4.out.mono ?_
  rintro e w1 ⟨rfl, rfl⟩
  go_wp2_with fail
  go_region_held3 (fun w' => w'.cell? ⟨g, 0, none⟩ = some (.pointer la) ∧ w'.cell? ⟨g, 1, none⟩ = some (.pointer ra) ∧ w'.cell? ⟨g, 2, none⟩ = some (.int .i64 lc)) (first | go_keep | exact keep3 (by assumption) (by assumption) | exact keep3 (by assumption) ⟨by assumption, by assumption, by assumption⟩) (first
    | (go_at_call 30
       refine (IH.out _ _ _ _ _ _ (by assumption) (by assumption) (by have := HZ.out; omega) HZ.out.2 BL.out.1 BL.out.2).mono ?_
       rintro e wa ⟨v1, rfl, hv1, hea⟩)
    | (go_at_call 32
       refine (level_ok (TreeAt.ext (by assumption) (by assumption)) (by assumption) (by have := HZ.out; rw [HSZ.out]; omega)).mono ?_
       rintro e wb ⟨v2, rfl, hv2, heb⟩))
  all_goals
    go_wp2_with fail
    go_ret
    exact ⟨_, rfl, hv2, hxd.trans (Ext.trans (by assumption) heb)⟩

set_option maxHeartbeats 8000000 in
theorem join_R {f : Nat} {l rl rr : Tr} {lv rv : Option Addr} {rc c : Int} {w : World} (IH : Hid (JoinP f)) (hl : TreeAt w lv l) (hr : TreeAt w rv (.node rl rc rr)) (hz : l.sz + Tr.sz (.node rl rc rr) ≤ 50000) (hf : l.sz + Tr.sz (.node rl rc rr) ≤ f + 1) (bl : l.bal) (br : Tr.bal (.node rl rc rr)) (h1 : (Tr.node rl rc rr).ht > l.ht + 1) :
    Calls Try.prog 30 #[.pointer lv, .int .i64 c, .pointer rv] w fun e w' => ∃ v, e = .returned (.pointer v) ∧ TreeAt w' v (Tr.level (Tr.joinF f l c rl) rc rr) ∧ Ext w w' := by
  have H3 := Lib.hid (tall_ok hl)
  have H4 := Lib.hid (tall_ok hr)
  have hl1 := Tr.ht_le (Tr.node rl rc rr)
  have hr1 := Tr.ht_le l
  have b1 : (Tr.node rl rc rr).ht ≤ 100000 := by omega
  have b2 : l.ht ≤ 100000 := by omega
  obtain ⟨g, la, ra, rfl, hb, tl, tr⟩ := tree_node hr
  obtain ⟨k0, k1, k2⟩ := cells_node hb
  have d1 : (l.ht : Int) + 1 < ((Tr.node rl rc rr).ht : Int) := by omega
  have d0 : ¬ ((Tr.node rl rc rr).ht : Int) + 1 < (l.ht : Int) := by omega
  have hsz : (Tr.node rl rc rr).sz = rl.sz + 1 + rr.sz := rfl
  have HZ : Hid (l.sz + (rl.sz + 1 + rr.sz) ≤ 50000 ∧ l.sz + rl.sz ≤ f) := Lib.hid (by omega)
  have BL : Hid (l.bal ∧ rl.bal) := Lib.hid ⟨bl, br.1⟩
  have HSZ : Hid ((Tr.joinF f l c rl).sz = l.sz + 1 + rl.sz) := Lib.hid (joinF_sz (by omega) bl br.1)
  have hxd := Ext.drew w
  have hl' := TreeAt.ext hxd tl
  have hr' := TreeAt.ext hxd tr
  have hrr' := TreeAt.ext hxd hl
  clear hl hr tl tr hb hz hl1 hr1 hf bl br hsz h1
  go_enter Try.func30, Try.ntmps30
  go_wp2_with fail
  refine H3.out.mono ?_
  rintro e w1 ⟨rfl, rfl⟩
  go_wp2_with fail
  refine H4.out.mono ?_
  rintro e w1 ⟨rfl, rfl⟩
  go_wp2_with fail
  refine H4.out.mono ?_
  rintro e w1 ⟨rfl, rfl⟩
  go_wp2_with fail
  refine H3.out.mono ?_
  rintro e w1 ⟨rfl, rfl⟩
  go_wp2_with fail
  go_region_held3 (fun w' => w'.cell? ⟨g, 0, none⟩ = some (.pointer la) ∧ w'.cell? ⟨g, 1, none⟩ = some (.pointer ra) ∧ w'.cell? ⟨g, 2, none⟩ = some (.int .i64 rc)) (first | go_keep | exact keep3 (by assumption) (by assumption) | exact keep3 (by assumption) ⟨by assumption, by assumption, by assumption⟩) (first
    | (go_at_call 30
       refine (IH.out _ _ _ _ _ _ (by assumption) (by assumption) (by have := HZ.out; omega) HZ.out.2 BL.out.1 BL.out.2).mono ?_
       rintro e wa ⟨v1, rfl, hv1, hea⟩)
    | (go_at_call 32
       refine (level_ok (by assumption) (TreeAt.ext (by assumption) (by assumption)) (by have := HZ.out; rw [HSZ.out]; omega)).mono ?_
       rintro e wb ⟨v2, rfl, hv2, heb⟩))
  all_goals
    go_wp2_with fail
    go_ret
    exact ⟨_, rfl, hv2, hxd.trans (Ext.trans (by assumption) heb)⟩

theorem joinF_ok : ∀ f : Nat, JoinP f
  | 0 => by
    intro l r lv rv c w hl hr hz hf bl br
    have e1 := Tr.sz_nil (t := l) (by omega)
    have e2 := Tr.sz_nil (t := r) (by omega)
    subst e1; subst e2
    exact join_M hl hr (by simp [Tr.sz]) (by simp [Tr.ht]) (by simp [Tr.ht])
  | f + 1 => by
    intro l r lv rv c w hl hr hz hf bl br
    by_cases h1 : l.ht > r.ht + 1
    · cases l with
      | nil => simp [Tr.ht] at h1
      | node ll lc lr => rw [Tr.joinF_L h1]; exact join_L (Lib.hid (joinF_ok f)) hl hr hz hf bl br h1
    · by_cases h3 : r.ht > l.ht + 1
      · cases r with
        | nil => simp [Tr.ht] at h3
        | node rl rc rr => rw [Tr.joinF_R h3]; exact join_R (Lib.hid (joinF_ok f)) hl hr hz hf bl br h3
      · rw [Tr.joinF_M h1 h3]; exact join_M hl hr (by omega) h1 h3
theorem join_ok {l r : Tr} {lv rv : Option Addr} {c : Int} {w : World} (hl : TreeAt w lv l) (hr : TreeAt w rv r) (hz : l.sz + r.sz ≤ 50000) (bl : l.bal) (br : r.bal) :
    Calls Try.prog 30 #[.pointer lv, .int .i64 c, .pointer rv] w fun e w' => ∃ v, e = .returned (.pointer v) ∧ TreeAt w' v (Tr.join l c r) ∧ Ext w w' :=
  joinF_ok _ _ _ _ _ _ _ hl hr hz (Nat.le_refl _) bl br
end Go.Proofs.Ythljopjpjjaadaa
