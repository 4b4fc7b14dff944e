/-
  Words of a line, in plain Lean: kinds, and where a run of one kind ends.
-/
import Derived.Test.YtmhgndjmcignjaaZJ1
import Derived.IntWalk

namespace Go.Proofs.Ytmhgndjmcignjaa

/-- A character's kind: 0 blank, 1 word, 2 sign. -/
def kindF (c : Int) (big : Bool) : Int :=
  if c = 32 ∨ c = 9 then 0 else if big = true ∨ (97 ≤ c ∧ c ≤ 122) ∨ (65 ≤ c ∧ c ≤ 90) ∨ (48 ≤ c ∧ c ≤ 57) ∨ c = 95 ∨ 128 ≤ c then 1 else 2
theorem kindF_bd (c : Int) (big : Bool) : 0 ≤ kindF c big ∧ kindF c big ≤ 2 := by unfold kindF; split <;> (try split) <;> omega
/-- The kind at a place; -1 outside. -/
def kindAt (l : List Int) (big : Bool) (k : Int) : Int := if 0 ≤ k ∧ k < l.length then kindF (gI l k.toNat) big else -1
theorem kindAt_in {l : List Int} {big : Bool} {k : Nat} (h : k < l.length) : kindAt l big k = kindF (gI l k) big := by
  unfold kindAt; rw [if_pos (by omega)]; rfl
theorem kindAt_out {l : List Int} {big : Bool} {k : Int} (h : k < 0 ∨ (l.length : Int) ≤ k) : kindAt l big k = -1 := by
  unfold kindAt; rw [if_neg (by omega)]
theorem kindAt_bd (l : List Int) (big : Bool) (k : Int) : -1 ≤ kindAt l big k ∧ kindAt l big k ≤ 2 := by
  unfold kindAt
  split
  · have := kindF_bd (gI l k.toNat) big; omega
  · omega

/-- Over all of one kind, to the right. -/
def overR (l : List Int) (big : Bool) (kind : Int) : Nat → Nat → Nat
  | 0, k => k
  | f + 1, k => if kindAt l big k = kind then overR l big kind f (k + 1) else k
/-- .. with as many steps as there are places. -/
def runR (l : List Int) (big : Bool) (kind : Int) (k : Nat) : Nat := overR l big kind (l.length + 1 - k) k
/-- To the left: m is the place and one more. -/
def runL (l : List Int) (big : Bool) (kind : Int) : Nat → Nat
  | 0 => 0
  | m + 1 => if kindAt l big m = kind then runL l big kind m else m + 1

theorem overR_spec {l : List Int} {big : Bool} {kind : Int} (hk : 0 ≤ kind) : ∀ (f k : Nat), l.length + 1 - k ≤ f →
    k ≤ overR l big kind f k ∧ (∀ i, k ≤ i → i < overR l big kind f k → kindAt l big i = kind) ∧ kindAt l big (overR l big kind f k) ≠ kind ∧ (overR l big kind f k ≤ l.length ∨ overR l big kind f k = k)
  | 0, k, h => by
    refine ⟨Nat.le_refl _, fun i h1 h2 => absurd h2 (by show ¬ i < k; omega), ?_, .inr rfl⟩
    show kindAt l big k ≠ kind
    rw [kindAt_out (by omega)]; omega
  | f + 1, k, h => by
    unfold overR
    split
    · rename_i h1
      have hlt : k < l.length := by
        rcases Nat.lt_or_ge k l.length with h2 | h2
        · exact h2
        · rw [kindAt_out (by omega)] at h1; omega
      obtain ⟨a, b, c, d⟩ := overR_spec (l := l) (big := big) hk f (k + 1) (by omega)
      refine ⟨by omega, fun i h2 h3 => ?_, c, ?_⟩
      · rcases Nat.lt_or_ge k i with h4 | h4
        · exact b i (by omega) h3
        · obtain rfl : i = k := by omega
          exact h1
      · rcases d with d | d
        · exact .inl d
        · exact .inl (by omega)
    · rename_i h1
      exact ⟨Nat.le_refl _, fun i h2 h3 => absurd h3 (by omega), h1, .inr rfl⟩
theorem runR_spec {l : List Int} {big : Bool} {kind : Int} (hk : 0 ≤ kind) (k : Nat) :
    k ≤ runR l big kind k ∧ (∀ i, k ≤ i → i < runR l big kind k → kindAt l big i = kind) ∧ kindAt l big (runR l big kind k) ≠ kind ∧ (runR l big kind k ≤ l.length ∨ runR l big kind k = k) :=
  overR_spec hk _ _ (Nat.le_refl _)
theorem runR_eq {l : List Int} {big : Bool} {kind : Int} (hk : 0 ≤ kind) {k j : Nat} (h1 : k ≤ j) (h2 : ∀ i, k ≤ i → i < j → kindAt l big i = kind) (h3 : kindAt l big j ≠ kind) : runR l big kind k = j := by
  obtain ⟨a, b, c, _⟩ := runR_spec (l := l) (big := big) hk k
  rcases Nat.lt_trichotomy (runR l big kind k) j with h | h | h
  · exact absurd (h2 _ a h) c
  · exact h
  · exact absurd (b j h1 h) h3
theorem runL_spec {l : List Int} {big : Bool} {kind : Int} : ∀ m : Nat,
    runL l big kind m ≤ m ∧ (∀ i : Nat, runL l big kind m ≤ i → i < m → kindAt l big i = kind) ∧ (runL l big kind m = 0 ∨ kindAt l big ((runL l big kind m : Int) - 1) ≠ kind)
  | 0 => ⟨Nat.le_refl _, fun i h1 h2 => absurd h2 (by omega), .inl rfl⟩
  | m + 1 => by
    unfold runL
    split
    · rename_i h1
      obtain ⟨a, b, c⟩ := runL_spec (l := l) (big := big) (kind := kind) m
      refine ⟨by omega, fun i h2 h3 => ?_, c⟩
      rcases Nat.lt_or_ge i m with h4 | h4
      · exact b i h2 h4
      · obtain rfl : i = m := by omega
        exact h1
    · rename_i h1
      refine ⟨Nat.le_refl _, fun i h2 h3 => absurd h3 (by omega), .inr ?_⟩
      rw [show ((m + 1 : Nat) : Int) - 1 = m by omega]
      exact h1
theorem runL_eq {l : List Int} {big : Bool} {kind : Int} {m j : Nat} (h1 : j ≤ m) (h2 : ∀ i : Nat, j ≤ i → i < m → kindAt l big i = kind) (h3 : j = 0 ∨ kindAt l big ((j : Int) - 1) ≠ kind) : runL l big kind m = j := by
  obtain ⟨a, b, c⟩ := runL_spec (l := l) (big := big) (kind := kind) m
  rcases Nat.lt_trichotomy (runL l big kind m) j with h | h | h
  · rcases h3 with h3 | h3
    · omega
    · have := b (j - 1) (by omega) (by omega)
      rw [show ((j - 1 : Nat) : Int) = (j : Int) - 1 by omega] at this
      exact absurd this h3
  · exact h
  · rcases c with c | c
    · omega
    · have := h2 (runL l big kind m - 1) (by omega) (by omega)
      rw [show ((runL l big kind m - 1 : Nat) : Int) = (runL l big kind m : Int) - 1 by omega] at this
      exact absurd this c

/-- The beginning of the next word. -/
def nextF (l : List Int) (k : Nat) (big : Bool) : Nat := runR l big 0 (if 0 < kindAt l big k then runR l big (kindAt l big k) k else k)
/-- The beginning of the word behind. -/
def backF (l : List Int) (k : Nat) (big : Bool) : Nat :=
  if runL l big 0 k = 0 then 0 else runL l big (kindAt l big ((runL l big 0 k : Int) - 1)) (runL l big 0 k)
/-- The end of a word. -/
def endF (l : List Int) (k : Nat) (big : Bool) : Nat :=
  if l.length ≤ runR l big 0 (k + 1) then l.length - 1 else runR l big (kindAt l big (runR l big 0 (k + 1))) (runR l big 0 (k + 1)) - 1
end Go.Proofs.Ytmhgndjmcignjaa

namespace Go.Proofs.Ytmhgndjmcignjaa
open Go.RowKit
set_option linter.unusedVariables false
set_option linter.unusedSimpArgs false

theorem kindF_blank {c : Int} {big : Bool} (h : c = 32 ∨ c = 9) : kindF c big = 0 := by unfold kindF; rw [if_pos h]
theorem kindF_word {c : Int} {big : Bool} (h : ¬ (c = 32 ∨ c = 9)) (h2 : big = true ∨ (97 ≤ c ∧ c ≤ 122) ∨ (65 ≤ c ∧ c ≤ 90) ∨ (48 ≤ c ∧ c ≤ 57) ∨ c = 95 ∨ 128 ≤ c) : kindF c big = 1 := by unfold kindF; rw [if_neg h, if_pos h2]
theorem kindF_sign {c : Int} {big : Bool} (h : ¬ (c = 32 ∨ c = 9)) (h2 : ¬ (big = true ∨ (97 ≤ c ∧ c ≤ 122) ∨ (65 ≤ c ∧ c ≤ 90) ∨ (48 ≤ c ∧ c ≤ 57) ∨ c = 95 ∨ 128 ≤ c)) : kindF c big = 2 := by unfold kindF; rw [if_neg h, if_neg h2]

set_option maxHeartbeats 4000000 in
theorem wkind_ok (c : Int) (big : Bool) (w : World) : Calls Try.prog 49 #[.int .i64 c, .bool big] w fun e w' => e = .returned (.int .i64 (kindF c big)) ∧ w' = w := by
  by_cases h1 : c = 32
  · subst h1
    rw [kindF_blank (.inl rfl)]
    go_enter Try.func49, Try.ntmps49
    go_wp2_with fail
    go_ret
    exact ⟨rfl, rfl⟩
  by_cases h2 : c = 9
  · subst h2
    rw [kindF_blank (.inr rfl)]
    go_enter Try.func49, Try.ntmps49
    go_wp2_with fail
    go_ret
    exact ⟨rfl, rfl⟩
  have b1 : (c == 32) = false := by simpa using h1
  have b2 : (c == 9) = false := by simpa using h2
  have HN : Hid (¬ (c = 32 ∨ c = 9)) := Lib.hid (by omega)
  clear h1 h2
  rcases big with _ | _
  · by_cases h3 : c = 95
    · subst h3
      rw [kindF_word HN.out (by omega)]
      go_enter Try.func49, Try.ntmps49
      go_wp2_with fail
      go_ret
      exact ⟨rfl, rfl⟩
    have b3 : (c == 95) = false := by simpa using h3
    have HF : Hid (∀ v, v = kindF c false → v = kindF c false) := Lib.hid (fun _ h => h)
    have H3 := Lib.hid h3
    clear h3
    go_enter Try.func49, Try.ntmps49
    go_wp2_with fail
    all_goals
      go_ret
      have h3 := H3.out
      refine ⟨ret_int ?_, rfl⟩
      first
        | exact (kindF_word HN.out (by omega)).symm
        | exact (kindF_sign HN.out (by simp; omega)).symm
  · rw [kindF_word HN.out (.inl rfl)]
    go_enter Try.func49, Try.ntmps49
    go_wp2_with fail
    go_ret
    exact ⟨rfl, rfl⟩

theorem wkind_quiet (c : Int) (big : Bool) (w : World) (n : Nat) : Calls Try.prog 49 #[.int .i64 c, .bool big] (w.drewN n) fun e w'' => e = .returned (.int .i64 (kindF c big)) ∧ ∃ m, w'' = w.drewN m :=
  (wkind_ok c big _).mono fun _ _ ⟨h1, h2⟩ => ⟨h1, n, h2⟩

set_option maxHeartbeats 1000000 in
theorem walkerKind_ok {l : List Int} {A : Option Addr} {n c : Nat} {big : Bool} {w : World} (hl : Ints w A n c l) (k : Int) (h1 : -4611686018427387904 ≤ k) (h2 : k ≤ 4611686018427387904) :
    Calls Try.prog 35 #[.agg #[.slice A n c, .bool big], .int .i64 k] w fun e w' => e = .returned (.int .i64 (kindAt l big k)) ∧ Ext w w' := by
  have hlen := Lib.hid hl.len
  have hnc := hl.ncap
  have hcm := hl.nmax
  unfold maxLen at hcm
  by_cases hin : 0 ≤ k ∧ k < n
  · obtain ⟨kn, rfl⟩ := Int.eq_ofNat_of_zero_le hin.1
    obtain ⟨ad, rfl, hc⟩ := hl.at_ (k := kn) (by omega)
    have hk : Hid (kindAt l big kn = kindF (gI l kn) big) := kindAt_in (by rw [hlen.out]; omega)
    have hkn : kn < n := by omega
    have hck := (Ext.alloc w (.cells #[.slice (some ad) n c, .bool big] 76)).cell (hc kn hkn)
    clear hc hin
    rw [hk.out]
    go_enter Try.func35, Try.ntmps35
    go_wp2_with fail
    go_quiet ((go_at_call 49; exact wkind_quiet _ _ _ _))
    go_wp2_with fail
    go_ret
    exact ⟨rfl, (Ext.alloc _ _).to_drewN _⟩
  · have hk : Hid (kindAt l big k = -1) := kindAt_out (by rw [hlen.out]; omega)
    rw [hk.out]
    go_enter Try.func35, Try.ntmps35
    go_wp2_with fail
    all_goals
      go_ret
      exact ⟨rfl, Ext.alloc _ _⟩

theorem kindAt_len {l : List Int} {big : Bool} {k kind : Int} (h : kindAt l big k = kind) (h0 : 0 ≤ kind) : 0 ≤ k ∧ k < l.length := by
  unfold kindAt at h
  split at h
  · assumption
  · omega

set_option maxHeartbeats 1000000 in
theorem overR_ok {l : List Int} {A : Option Addr} {n c : Nat} {big : Bool} {w : World} (hl : Ints w A n c l) (k : Nat) (kind : Int) (h0 : 0 ≤ kind) (h1 : k ≤ n + 1) (hn : n ≤ 4096) :
    Calls Try.prog 34 #[.agg #[.slice A n c, .bool big], .int .i64 k, .int .i64 1, .int .i64 kind] w fun e w' => e = .returned (.int .i64 (runR l big kind k)) ∧ Ext w w' := by
  have hlen := Lib.hid hl.len
  have hb0 := Blk.new w 76 #[.slice A n c, .bool big]
  go_enter Try.func34, Try.ntmps34
  go_wp2_with fail
  go_loopw [1] (fun i wr => ∃ j : Nat, k ≤ j ∧ j ≤ n + 1 ∧ i = .int .i64 j ∧ Hid (∀ i : Nat, k ≤ i → i < j → kindAt l big i = kind) ∧ Blk wr w.heap.size 76 #[.slice A n c, .bool big] ∧ Ext w wr) (fun i _ => n + 1 - (intOf i).toNat)
  case atStart => exact ⟨k, Nat.le_refl _, h1, rfl, fun i h1 h2 => absurd h2 (by omega), hb0, Ext.alloc _ _⟩
  case round =>
    clear hb0
    obtain ⟨j, hj, hj2, rfl, hall, hb, he⟩ := hrel
    have c0 := hb.cell 0
    have c1 := hb.cell 1
    simp only [List.getElem?_toArray, List.getElem?_cons_zero, List.getElem?_cons_succ] at c0 c1
    have HK := Lib.hid (walkerKind_ok (big := big) (hl.ext he) j (by omega) (by omega))
    go_wp2_with fail
    refine HK.out.mono ?_
    rintro e w1 ⟨rfl, he1⟩
    clear HK c0 c1
    by_cases heq : kindAt l big j = kind
    · have b1 : (kindAt l big j == kind) = true := by simpa using heq
      have hlt := (kindAt_len heq h0).2
      rw [hlen.out] at hlt
      have HQ := Lib.hid heq
      clear heq
      go_wp2_with fail
      go_roundw
      case rel => exact ⟨j + 1, by omega, by omega, by go_num, fun i h1 h2 => by
        rcases Nat.lt_or_ge i j with h3 | h3
        · exact hall.out i h1 h3
        · obtain rfl : i = j := by omega
          exact HQ.out, hb.ext he1, he.trans he1⟩
      case measure => simp [intOf]; omega
    · have b1 : (kindAt l big j == kind) = false := by simpa using heq
      have HQ := Lib.hid heq
      clear heq
      go_wp2_with fail
      go_ret
      exact ⟨ret_int (by rw [runR_eq h0 hj hall.out HQ.out]), he.trans he1⟩

set_option maxHeartbeats 1000000 in
theorem overL_ok {l : List Int} {A : Option Addr} {n c : Nat} {big : Bool} {w : World} (hl : Ints w A n c l) (m : Nat) (kind : Int) (h0 : 0 ≤ kind) (h1 : m ≤ n + 1) (hn : n ≤ 4096) :
    Calls Try.prog 34 #[.agg #[.slice A n c, .bool big], .int .i64 ((m : Int) - 1), .int .i64 (-1), .int .i64 kind] w fun e w' => e = .returned (.int .i64 ((runL l big kind m : Int) - 1)) ∧ Ext w w' := by
  have hlen := Lib.hid hl.len
  have hb0 := Blk.new w 76 #[.slice A n c, .bool big]
  go_enter Try.func34, Try.ntmps34
  go_wp2_with fail
  go_loopw [1] (fun i wr => ∃ j : Nat, j ≤ m ∧ i = .int .i64 ((j : Int) - 1) ∧ Hid (∀ i : Nat, j ≤ i → i < m → kindAt l big i = kind) ∧ Blk wr w.heap.size 76 #[.slice A n c, .bool big] ∧ Ext w wr) (fun i _ => (intOf i + 1).toNat)
  case atStart => exact ⟨m, Nat.le_refl _, rfl, fun i h1 h2 => absurd h2 (by omega), hb0, Ext.alloc _ _⟩
  case round =>
    clear hb0
    obtain ⟨j, hj, rfl, hall, hb, he⟩ := hrel
    have c0 := hb.cell 0
    have c1 := hb.cell 1
    simp only [List.getElem?_toArray, List.getElem?_cons_zero, List.getElem?_cons_succ] at c0 c1
    have HK := Lib.hid (walkerKind_ok (big := big) (hl.ext he) ((j : Int) - 1) (by omega) (by omega))
    go_wp2_with fail
    refine HK.out.mono ?_
    rintro e w1 ⟨rfl, he1⟩
    clear HK c0 c1
    by_cases heq : kindAt l big ((j : Int) - 1) = kind
    · have b1 : (kindAt l big ((j : Int) - 1) == kind) = true := by simpa using heq
      have hlt := (kindAt_len heq h0).1
      have HQ := Lib.hid heq
      clear heq
      go_wp2_with fail
      go_roundw
      case rel => exact ⟨j - 1, by omega, by
        congr 1; omega, fun i h1 h2 => by
        rcases Nat.lt_or_ge i j with h3 | h3
        · obtain rfl : i = j - 1 := by omega
          rw [← HQ.out]; congr 1; omega
        · exact hall.out i h3 h2, hb.ext he1, he.trans he1⟩
      case measure => simp [intOf]; omega
    · have b1 : (kindAt l big ((j : Int) - 1) == kind) = false := by simpa using heq
      have HQ := Lib.hid heq
      clear heq
      go_wp2_with fail
      go_ret
      exact ⟨ret_int (by rw [runL_eq hj hall.out (.inr HQ.out)]), he.trans he1⟩

set_option maxHeartbeats 400000 in
theorem wright_ok {A : Option Addr} {n c : Nat} {k : Int} {w : World} (hnc : n ≤ c) (hcm : c ≤ maxLen) :
    Calls Try.prog 33 #[.slice A n c, .int .i64 k] w fun e w' => e = .returned (.int .i64 (if n > 4096 then 2 else if k < 0 ∨ k > n then 1 else 0)) ∧ w' = w := by
  unfold maxLen at hcm
  have HF : Hid (∀ v : Int, (n > 4096 → v = 2) → (n ≤ 4096 → (k < 0 ∨ k > n) → v = 1) → (n ≤ 4096 → 0 ≤ k → k ≤ n → v = 0) → v = (if n > 4096 then 2 else if k < 0 ∨ k > n then 1 else 0)) := Lib.hid (fun v h1 h2 h3 => by
    split
    · exact h1 ‹_›
    · split
      · exact h2 (by omega) ‹_›
      · exact h3 (by omega) (by omega) (by omega))
  go_enter Try.func33, Try.ntmps33
  go_wp2_with fail
  all_goals (go_ret; exact ⟨rfl, rfl⟩)

/-- The line and the place are no good. -/
def wbad (n : Nat) (k : Int) : Prop := n > 4096 ∨ k < 0 ∨ k > n

set_option maxHeartbeats 400000 in
theorem wnext_bad {A : Option Addr} {n c : Nat} {k : Int} {big : Bool} {w : World} (hnc : n ≤ c) (hcm : c ≤ maxLen) (h : wbad n k) :
    Calls Try.prog 71 #[.slice A n c, .int .i64 k, .bool big] w fun e w' => e = .returned (.tuple #[.int .i64 0, .int .i64 (if n > 4096 then 2 else 1)]) ∧ w' = w := by
  have HR := Lib.hid (@wright_ok A n c k w hnc hcm)
  have hv : (if n > 4096 then (2 : Int) else if k < 0 ∨ k > n then 1 else 0) = (if n > 4096 then 2 else 1) := by
    unfold wbad at h
    split
    · rfl
    · rw [if_pos (by omega)]
  rw [hv] at HR
  have hne : ((if n > 4096 then (2 : Int) else 1) != 0) = true := by split <;> rfl
  revert HR hne
  generalize (if n > 4096 then (2 : Int) else 1) = v
  intro HR hne
  clear hv h
  unfold maxLen at hcm
  go_enter Try.func71, Try.ntmps71
  go_wp2_with fail
  refine HR.out.mono ?_
  rintro e w1 ⟨rfl, rfl⟩
  clear HR
  go_wp2_with fail
  go_ret2
  exact ⟨rfl, rfl⟩

set_option maxHeartbeats 1000000 in
theorem wnext_ok {l : List Int} {A : Option Addr} {n c : Nat} {k : Nat} {big : Bool} {w : World} (hl : Ints w A n c l) (hn : n ≤ 4096) (hk : k ≤ n) :
    Calls Try.prog 71 #[.slice A n c, .int .i64 k, .bool big] w fun e w' => e = .returned (.tuple #[.int .i64 (nextF l k big), .int .i64 0]) ∧ Ext w w' := by
  have hnc := hl.ncap
  have hcm := hl.nmax
  have hlen := Lib.hid hl.len
  have HR := Lib.hid (@wright_ok A n c k w hnc hcm)
  have hv : (if n > 4096 then (2 : Int) else if (k : Int) < 0 ∨ (k : Int) > n then 1 else 0) = 0 := by
    rw [if_neg (by omega), if_neg (by omega)]
  rw [hv] at HR
  clear hv
  unfold maxLen at hcm
  go_enter Try.func71, Try.ntmps71
  go_wp2_with fail
  refine HR.out.mono ?_
  rintro e w1 ⟨rfl, rfl⟩
  clear HR
  have HK := Lib.hid (walkerKind_ok (big := big) (hl.ext (Ext.alloc w1 (.cells #[.slice A n c, .bool big] 76))) k (by omega) (by omega))
  go_wp2_with fail
  refine HK.out.mono ?_
  rintro e w2 ⟨rfl, he2⟩
  clear HK
  have hb := (Blk.new w1 76 #[.slice A n c, .bool big]).ext he2
  have he := (Ext.alloc w1 (.cells #[.slice A n c, .bool big] 76)).trans he2
  have c0 := hb.cell 0
  have c1 := hb.cell 1
  simp only [List.getElem?_toArray, List.getElem?_cons_zero, List.getElem?_cons_succ] at c0 c1
  by_cases hp : 0 < kindAt l big k
  · have hlt := (kindAt_len (k := k) rfl (show 0 ≤ kindAt l big k by omega)).2
    rw [hlen.out] at hlt
    obtain ⟨r1, -, -, r4⟩ := runR_spec (l := l) (big := big) (kind := kindAt l big k) (by omega) k
    rw [hlen.out] at r4
    have hF : Hid (nextF l k big = runR l big 0 (runR l big (kindAt l big k) k)) := Lib.hid (by unfold nextF; rw [if_pos hp])
    have HO := Lib.hid (overR_ok (big := big) (hl.ext he) k (kindAt l big k) (by omega) (by omega) hn)
    go_wp2_with fail
    refine HO.out.mono ?_
    rintro e w3 ⟨rfl, he3⟩
    have c2 := he3.cell c0
    have c3 := he3.cell c1
    have HO2 := Lib.hid (overR_ok (big := big) (hl.ext (he.trans he3)) (runR l big (kindAt l big k) k) 0 (Int.le_refl _) (by omega) hn)
    clear HO c0 c1
    go_wp2_with fail
    refine HO2.out.mono ?_
    rintro e w4 ⟨rfl, he4⟩
    clear HO2 c2 c3
    go_wp2_with fail
    go_ret2
    exact ⟨by rw [hF.out]; rfl, (he.trans he3).trans he4⟩
  · have hF : Hid (nextF l k big = runR l big 0 k) := Lib.hid (by unfold nextF; rw [if_neg hp])
    have HO := Lib.hid (overR_ok (big := big) (hl.ext he) k 0 (Int.le_refl _) (by omega) hn)
    go_wp2_with fail
    refine HO.out.mono ?_
    rintro e w3 ⟨rfl, he3⟩
    clear HO c0 c1
    go_wp2_with fail
    go_ret2
    exact ⟨by rw [hF.out]; rfl, he.trans he3⟩
end Go.Proofs.Ytmhgndjmcignjaa

namespace Go.Proofs.Ytmhgndjmcignjaa
open Go.RowKit
set_option linter.unusedVariables false
set_option linter.unusedSimpArgs false

/-- Where no blank lies at k, or k is at the end, the next great word begins where from words' beginnings one gets to: a step of Next (small) from before a great word's next beginning never passes it. -/
theorem nextF_facts {l : List Int} {k : Nat} {big : Bool} (hk : k ≤ l.length) :
    k ≤ nextF l k big ∧ nextF l k big ≤ l.length ∧ (nextF l k big = k → k = l.length ∨ k < l.length ∧ kindAt l big k ≠ 0 ∧ ¬ 0 < kindAt l big k) ∧
    ∃ m, k ≤ m ∧ m ≤ nextF l k big ∧ (∀ i, k ≤ i → i < m → kindAt l big i = kindAt l big k ∧ 0 < kindAt l big k) ∧ (0 < kindAt l big k → kindAt l big m ≠ kindAt l big k) ∧ (∀ i, m ≤ i → i < nextF l k big → kindAt l big i = 0) ∧ kindAt l big (nextF l k big) ≠ 0 := by
  unfold nextF
  split
  · rename_i hp
    obtain ⟨a1, a2, a3, a4⟩ := runR_spec (l := l) (big := big) (kind := kindAt l big k) (by omega) k
    have hlt := (kindAt_len (k := k) rfl (show 0 ≤ kindAt l big k by omega)).2
    have hle : runR l big (kindAt l big k) k ≤ l.length := by rcases a4 with a4 | a4 <;> omega
    obtain ⟨b1, b2, b3, b4⟩ := runR_spec (l := l) (big := big) (kind := 0) (by omega) (runR l big (kindAt l big k) k)
    have hne : runR l big (kindAt l big k) k ≠ k := fun e => a3 (by rw [e])
    refine ⟨by omega, by rcases b4 with b4 | b4 <;> omega, fun e => by omega, _, a1, b1, fun i h1 h2 => ⟨a2 i h1 h2, hp⟩, fun _ => a3, b2, b3⟩
  · rename_i hp
    obtain ⟨b1, b2, b3, b4⟩ := runR_spec (l := l) (big := big) (kind := 0) (by omega) k
    refine ⟨b1, by rcases b4 with b4 | b4 <;> omega, fun e => ?_, k, Nat.le_refl _, b1, fun i h1 h2 => absurd h2 (by omega), fun h => absurd h hp, b2, b3⟩
    rcases Nat.lt_or_ge k l.length with h | h
    · rw [e] at b3
      exact .inr ⟨h, b3, hp⟩
    · exact .inl (by omega)

theorem kind_zero_big {c : Int} : kindF c true = 0 ↔ kindF c false = 0 := by
  unfold kindF
  by_cases h : c = 32 ∨ c = 9
  · rw [if_pos h, if_pos h]
  · rw [if_neg h, if_neg h]; simp; split <;> omega
theorem kindAt_zero_big {l : List Int} {k : Int} : kindAt l true k = 0 ↔ kindAt l false k = 0 := by
  unfold kindAt
  split
  · exact kind_zero_big
  · exact Iff.rfl
theorem kindF_nn (c : Int) (big : Bool) : 0 ≤ kindF c big := (kindF_bd c big).1
theorem kindAt_pos {l : List Int} {big : Bool} {k : Nat} (h : k < l.length) (h0 : kindAt l big k ≠ 0) : 0 < kindAt l big k := by
  rw [kindAt_in h] at h0 ⊢
  have := kindF_nn (gI l k) big
  omega

/-- From ahead of a great word's beginning a word's beginning lies no farther. -/
theorem step_in {l : List Int} {k at_ : Nat} (hk : k ≤ l.length) (h1 : k ≤ at_) (h2 : at_ < nextF l k true) :
    at_ < nextF l at_ false ∧ nextF l at_ false ≤ nextF l k true := by
  obtain ⟨a1, a2, a3, m, a4, a5, a6, a7, a8, a9⟩ := nextF_facts (big := true) hk
  have hat : at_ < l.length := by omega
  obtain ⟨b1, b2, b3, n, b4, b5, b6, b7, b8, b9⟩ := nextF_facts (big := false) (show at_ ≤ l.length by omega)
  refine ⟨?_, ?_⟩
  · rcases Nat.lt_or_ge at_ (nextF l at_ false) with h | h
    · exact h
    · rcases b3 (by omega) with h3 | ⟨_, h3, h4⟩
      · omega
      · exact absurd (kindAt_pos hat h3) h4
  · -- everything in [n, next small) is blank; [at, n) one kind > 0
    refine Nat.le_of_not_lt fun hgt => ?_
    -- the great word's beginning X = nextF l k true lies within
    rcases Nat.lt_or_ge (nextF l k true) n with h3 | h3
    · -- X in [at, n): its kind is > 0 and the one ahead is too; but ahead of X lies a blank or the great word's run
      obtain ⟨c1, c2⟩ := b6 (nextF l k true) (by omega) h3
      have hX1 : at_ ≤ nextF l k true - 1 := by omega
      obtain ⟨d1, d2⟩ := b6 (nextF l k true - 1) hX1 (by omega)
      -- X - 1 is in [m, X) blank, or in [k, m)
      rcases Nat.lt_or_ge (nextF l k true - 1) m with h4 | h4
      · have hm : m = nextF l k true := by omega
        obtain ⟨e1, e2⟩ := a6 (nextF l k true - 1) (by omega) h4
        have e3 := a7 e2
        rw [hm] at e3
        -- both great kinds are 1
        have hXlt : nextF l k true < l.length := by
          have := (kindAt_len (l := l) (big := false) (k := (nextF l k true : Int)) c1 (by omega)).2
          omega
        have g1 : kindAt l true (nextF l k true) = 1 := big_one hXlt a9
        have g2 : kindAt l true k = 1 := big_one (by omega) (by omega)
        omega
      · have := a8 (nextF l k true - 1) h4 (by omega)
        rw [kindAt_zero_big] at this
        omega
    · have := b8 (nextF l k true) h3 hgt
      rw [← kindAt_zero_big] at this
      exact a9 this
where
  big_one {l : List Int} {j : Nat} (h : j < l.length) (h0 : kindAt l true j ≠ 0) : kindAt l true j = 1 := by
    rw [kindAt_in h] at h0 ⊢
    unfold kindF at h0 ⊢
    split at h0
    · exact absurd rfl h0
    · rename_i hb
      rw [if_neg hb]
      simp

end Go.Proofs.Ytmhgndjmcignjaa

namespace Go.Proofs.Ytmhgndjmcignjaa
open Go.RowKit
set_option linter.unusedVariables false
set_option linter.unusedSimpArgs false

/-- A word begins there. -/
def beginsP (l : List Int) (i : Nat) (big : Bool) : Prop := i < l.length ∧ kindAt l big i ≠ 0 ∧ (i = 0 ∨ kindAt l big ((i : Int) - 1) ≠ kindAt l big i)

theorem next_way {l : List Int} {k : Nat} {big : Bool} (hk : k ≤ l.length) (h : nextF l k big < l.length) : k < nextF l k big ∧ beginsP l (nextF l k big) big ∧ backF l (nextF l k big) big ≤ k := by
  obtain ⟨a1, a2, a3, m, a4, a5, a6, a7, a8, a9⟩ := nextF_facts (big := big) hk
  generalize nextF l k big = X at *
  have hlt : k < X := by
    rcases Nat.lt_or_ge k X with h1 | h1
    · exact h1
    · rcases a3 (by omega) with h3 | ⟨h2, h3, h4⟩
      · omega
      · exact absurd (kindAt_pos h2 h3) h4
  refine ⟨hlt, ⟨h, a9, .inr ?_⟩, ?_⟩
  · rw [show ((X : Int) - 1) = ((X - 1 : Nat) : Int) by omega]
    rcases Nat.lt_or_ge (X - 1) m with h4 | h4
    · obtain ⟨e1, e2⟩ := a6 (X - 1) (by omega) h4
      have hm : m = X := by omega
      rw [e1, ← hm]
      exact fun e => a7 e2 e.symm
    · rw [a8 (X - 1) h4 (by omega)]
      exact fun e => a9 e.symm
  · unfold backF
    obtain ⟨b1, b2, b3⟩ := runL_spec (l := l) (big := big) (kind := 0) X
    generalize runL l big 0 X = j at *
    split
    · omega
    · rename_i hj
      rcases b3 with b3 | b3
      · omega
      rw [show ((j : Int) - 1) = ((j - 1 : Nat) : Int) by omega] at b3 ⊢
      have hjm : j ≤ m := Nat.le_of_not_lt fun hgt => b3 (a8 (j - 1) (by omega) (by omega))
      obtain ⟨c1, c2, c3⟩ := runL_spec (l := l) (big := big) (kind := kindAt l big (j - 1 : Nat)) j
      generalize runL l big (kindAt l big (j - 1 : Nat)) j = r at *
      rcases Nat.lt_or_ge k j with h5 | h5
      · refine Nat.le_of_not_lt fun hgt => ?_
        rcases c3 with c3 | c3
        · omega
        · rw [show ((r : Int) - 1) = ((r - 1 : Nat) : Int) by omega, (a6 (r - 1) (by omega) (by omega)).1, (a6 (j - 1) (by omega) (by omega)).1] at c3
          exact c3 rfl
      · omega

theorem back_way {l : List Int} {k : Nat} {big : Bool} (hk : k ≤ l.length) : backF l k big = 0 ∨ (0 < backF l k big ∧ backF l k big < k ∧ beginsP l (backF l k big) big) := by
  unfold backF
  obtain ⟨b1, b2, b3⟩ := runL_spec (l := l) (big := big) (kind := 0) k
  generalize runL l big 0 k = j at *
  split
  · exact .inl rfl
  · rename_i hj
    rcases b3 with b3 | b3
    · omega
    rw [show ((j : Int) - 1) = ((j - 1 : Nat) : Int) by omega] at b3 ⊢
    obtain ⟨c1, c2, c3⟩ := runL_spec (l := l) (big := big) (kind := kindAt l big (j - 1 : Nat)) j
    generalize runL l big (kindAt l big (j - 1 : Nat)) j = r at *
    rcases Nat.eq_zero_or_pos r with h0 | h0
    · exact .inl h0
    · rcases c3 with c3 | c3
      · omega
      have hr : r < j := by
        rcases Nat.lt_or_ge r j with h | h
        · exact h
        · exfalso
          apply c3
          congr 1
          omega
      have e := c2 r (Nat.le_refl _) hr
      exact .inr ⟨h0, by omega, by omega, by rw [e]; exact b3, .inr (by rw [e]; exact c3)⟩

theorem end_way {l : List Int} {k : Nat} {big : Bool} (hk : k ≤ l.length) :
    (l.length = 0 ∧ endF l k big = 0) ∨ (0 < l.length ∧ endF l k big = l.length - 1) ∨ (k < endF l k big ∧ endF l k big + 1 < l.length ∧ kindAt l big (endF l k big) ≠ kindAt l big (endF l k big + 1 : Nat)) := by
  unfold endF
  obtain ⟨b1, b2, b3, b4⟩ := runR_spec (l := l) (big := big) (kind := 0) (by omega) (k + 1)
  generalize runR l big 0 (k + 1) = j at *
  split
  · rcases Nat.eq_zero_or_pos l.length with h | h
    · exact .inl ⟨h, by omega⟩
    · exact .inr (.inl ⟨h, rfl⟩)
  · rename_i hj
    have hp := kindAt_pos (l := l) (big := big) (k := j) (by omega) b3
    obtain ⟨c1, c2, c3, c4⟩ := runR_spec (l := l) (big := big) (kind := kindAt l big j) (by omega) j
    generalize runR l big (kindAt l big j) j = r at *
    have hr : j < r := by
      rcases Nat.lt_or_ge j r with h | h
      · exact h
      · exact absurd (by congr 1; omega) c3
    have e := c2 (r - 1) (by omega) (by omega)
    rcases Nat.lt_or_ge r l.length with h | h
    · refine .inr (.inr ⟨by omega, by omega, ?_⟩)
      rw [e, show r - 1 + 1 = r by omega]
      exact fun h => c3 h.symm
    · exact .inr (.inl ⟨by omega, by omega⟩)

/-- backF is no greater than the place. -/
theorem backF_le {l : List Int} {k : Nat} {big : Bool} (hk : k ≤ l.length) : backF l k big ≤ k := by
  rcases back_way (big := big) hk with h | ⟨_, h, _⟩ <;> omega

set_option maxRecDepth 20000 in
set_option maxHeartbeats 400000 in
theorem wback_bad {A : Option Addr} {n c : Nat} {k : Int} {big : Bool} {w : World} (hnc : n ≤ c) (hcm : c ≤ maxLen) (h : wbad n k) :
    Calls Try.prog 25 #[.slice A n c, .int .i64 k, .bool big] w fun e w' => e = .returned (.tuple #[.int .i64 0, .int .i64 (if n > 4096 then 2 else 1)]) ∧ w' = w := by
  have HR := Lib.hid (@wright_ok A n c k w hnc hcm)
  have hv : (if n > 4096 then (2 : Int) else if k < 0 ∨ k > n then 1 else 0) = (if n > 4096 then 2 else 1) := by
    unfold wbad at h
    split
    · rfl
    · rw [if_pos (by omega)]
  rw [hv] at HR
  have hne : ((if n > 4096 then (2 : Int) else 1) != 0) = true := by split <;> rfl
  revert HR hne
  generalize (if n > 4096 then (2 : Int) else 1) = v
  intro HR hne
  clear hv h
  unfold maxLen at hcm
  go_enter Try.func25, Try.ntmps25
  go_wp2_with fail
  refine HR.out.mono ?_
  rintro e w1 ⟨rfl, rfl⟩
  clear HR
  go_wp2_with fail
  go_ret2
  exact ⟨rfl, rfl⟩

set_option maxRecDepth 20000 in
set_option maxHeartbeats 400000 in
theorem wend_bad {A : Option Addr} {n c : Nat} {k : Int} {big : Bool} {w : World} (hnc : n ≤ c) (hcm : c ≤ maxLen) (h : wbad n k) :
    Calls Try.prog 72 #[.slice A n c, .int .i64 k, .bool big] w fun e w' => e = .returned (.tuple #[.int .i64 0, .int .i64 (if n > 4096 then 2 else 1)]) ∧ w' = w := by
  have HR := Lib.hid (@wright_ok A n c k w hnc hcm)
  have hv : (if n > 4096 then (2 : Int) else if k < 0 ∨ k > n then 1 else 0) = (if n > 4096 then 2 else 1) := by
    unfold wbad at h
    split
    · rfl
    · rw [if_pos (by omega)]
  rw [hv] at HR
  have hne : ((if n > 4096 then (2 : Int) else 1) != 0) = true := by split <;> rfl
  revert HR hne
  generalize (if n > 4096 then (2 : Int) else 1) = v
  intro HR hne
  clear hv h
  unfold maxLen at hcm
  go_enter Try.func72, Try.ntmps72
  go_wp2_with fail
  refine HR.out.mono ?_
  rintro e w1 ⟨rfl, rfl⟩
  clear HR
  go_wp2_with fail
  go_ret2
  exact ⟨rfl, rfl⟩

set_option maxRecDepth 20000 in
set_option maxHeartbeats 1000000 in
theorem wback_ok {l : List Int} {A : Option Addr} {n c : Nat} {k : Nat} {big : Bool} {w : World} (hl : Ints w A n c l) (hn : n ≤ 4096) (hk : k ≤ n) :
    Calls Try.prog 25 #[.slice A n c, .int .i64 k, .bool big] w fun e w' => e = .returned (.tuple #[.int .i64 (backF l k big), .int .i64 0]) ∧ Ext w w' := by
  have hnc := hl.ncap
  have hcm := hl.nmax
  have hlen := Lib.hid hl.len
  have HR := Lib.hid (@wright_ok A n c k w hnc hcm)
  have hv : (if n > 4096 then (2 : Int) else if (k : Int) < 0 ∨ (k : Int) > n then 1 else 0) = 0 := by
    rw [if_neg (by omega), if_neg (by omega)]
  rw [hv] at HR
  clear hv
  unfold maxLen at hcm
  go_enter Try.func25, Try.ntmps25
  go_wp2_with fail
  refine HR.out.mono ?_
  rintro e w1 ⟨rfl, rfl⟩
  clear HR
  have HK := Lib.hid (overL_ok (big := big) (hl.ext (Ext.alloc w1 (.cells #[.slice A n c, .bool big] 76))) k 0 (by omega) (by omega) hn)
  go_wp2_with fail
  refine HK.out.mono ?_
  rintro e w2 ⟨rfl, he2⟩
  clear HK
  have hb := (Blk.new w1 76 #[.slice A n c, .bool big]).ext he2
  have he := (Ext.alloc w1 (.cells #[.slice A n c, .bool big] 76)).trans he2
  have hl2 := hl.ext he
  clear hl he2
  obtain ⟨j1, -, -⟩ := runL_spec (l := l) (big := big) (kind := 0) k
  have HB : Hid (backF l k big = if runL l big 0 k = 0 then 0 else runL l big (kindAt l big ((runL l big 0 k : Int) - 1)) (runL l big 0 k)) := Lib.hid rfl
  revert HB j1
  generalize runL l big 0 k = j
  intro j1 HB
  rcases Nat.eq_zero_or_pos j with h0 | h0
  · subst h0
    rw [if_pos rfl] at HB
    clear hb
    go_wp2_with fail
    go_ret2
    exact ⟨by rw [HB.out]; rfl, he⟩
  · rw [if_neg (by omega)] at HB
    have e0 : 0 ≤ kindAt l big ((j : Int) - 1) := by
      rw [show ((j : Int) - 1) = ((j - 1 : Nat) : Int) by omega, kindAt_in (by rw [hlen.out]; omega)]
      exact kindF_nn _ _
    have e1 := (kindAt_bd l big ((j : Int) - 1)).2
    obtain ⟨r1, -, -⟩ := runL_spec (l := l) (big := big) (kind := kindAt l big ((j : Int) - 1)) j
    have c0 : ∀ i : ExtW w2, i.w.cell? ⟨w1.heap.size, 0, none⟩ = some (.slice A n c) := fun i => (hb.ext i.h).cell 0
    have c1 : ∀ i : ExtW w2, i.w.cell? ⟨w1.heap.size, 1, none⟩ = some (.bool big) := fun i => (hb.ext i.h).cell 1
    clear hb
    go_wp2_with fail
    refine wp_region_ext (by kernel_rfl) (by kernel_rfl) ?_
    repeat
      refine wpQuiet_step (fun K hK => ?_)
      go_simp
      first
        | (refine hK _ ?_; clear hK K)
        | (refine ⟨_, fun _ => rfl, ?_⟩; refine hK _ ?_; clear hK K)
        | (apply Exists.intro
           refine ⟨fun _ => ?_, hK _ ?_⟩
           (first | (go_at_call 35; exact ext_call (walkerKind_ok (hl2.ext (ExtW.h _)) _ (by omega) (by omega))) | (go_at_call 34; exact ext_call (overL_ok (hl2.ext (ExtW.h _)) j _ (by omega) (by omega) hn)))
           clear hK K)
    refine wpQuiet_nil ?_
    rintro _ ⟨i, rfl⟩
    clear c0 c1
    go_wp2_with fail
    go_ret2
    exact ⟨by rw [HB.out]; simp; exact IntWalk.i64_in _ (by omega), he.trans i.h⟩

set_option maxRecDepth 20000 in
set_option maxHeartbeats 1000000 in
theorem wend_ok {l : List Int} {A : Option Addr} {n c : Nat} {k : Nat} {big : Bool} {w : World} (hl : Ints w A n c l) (hn : n ≤ 4096) (hk : k ≤ n) :
    Calls Try.prog 72 #[.slice A n c, .int .i64 k, .bool big] w fun e w' => e = .returned (.tuple #[.int .i64 (endF l k big), .int .i64 0]) ∧ Ext w w' := by
  have hnc := hl.ncap
  have hcm := hl.nmax
  have hlen := Lib.hid hl.len
  have HR := Lib.hid (@wright_ok A n c k w hnc hcm)
  have hv : (if n > 4096 then (2 : Int) else if (k : Int) < 0 ∨ (k : Int) > n then 1 else 0) = 0 := by
    rw [if_neg (by omega), if_neg (by omega)]
  rw [hv] at HR
  clear hv
  unfold maxLen at hcm
  go_enter Try.func72, Try.ntmps72
  go_wp2_with fail
  refine HR.out.mono ?_
  rintro e w1 ⟨rfl, rfl⟩
  clear HR
  have HK := overR_ok (big := big) (hl.ext (Ext.alloc w1 (.cells #[.slice A n c, .bool big] 76))) (k + 1) 0 (by omega) (by omega) hn
  rw [show ((k + 1 : Nat) : Int) = (k : Int) + 1 by omega] at HK
  have HK := Lib.hid HK
  go_wp2_with fail
  refine HK.out.mono ?_
  rintro e w2 ⟨rfl, he2⟩
  clear HK
  have hb := (Blk.new w1 76 #[.slice A n c, .bool big]).ext he2
  have he := (Ext.alloc w1 (.cells #[.slice A n c, .bool big] 76)).trans he2
  have hl2 := hl.ext he
  clear hl he2
  obtain ⟨j1, -, j3, j4⟩ := runR_spec (l := l) (big := big) (kind := 0) (by omega) (k + 1)
  rw [hlen.out] at j4
  have HB : Hid (endF l k big = if n ≤ runR l big 0 (k + 1) then n - 1 else runR l big (kindAt l big (runR l big 0 (k + 1))) (runR l big 0 (k + 1)) - 1) := Lib.hid (by unfold endF; rw [hlen.out])
  have HP : Hid (∀ j, j = runR l big 0 (k + 1) → j < n → 0 < kindAt l big j) := Lib.hid (fun j e h => by subst e; exact kindAt_pos (by rw [hlen.out]; exact h) j3)
  clear j3
  revert HB HP j1 j4
  generalize runR l big 0 (k + 1) = j
  intro j1 j4 HB HP
  rcases Nat.lt_or_ge j n with h0 | h0
  · rw [if_neg (by omega)] at HB
    have e0 := HP.out j rfl h0
    have e1 := (kindAt_bd l big j).2
    have H4 : j < runR l big (kindAt l big j) j ∧ runR l big (kindAt l big j) j ≤ n := by
      obtain ⟨c1, -, c3, c4⟩ := runR_spec (l := l) (big := big) (kind := kindAt l big j) (by omega) j
      rw [hlen.out] at c4
      refine ⟨?_, by omega⟩
      rcases Nat.lt_or_ge j (runR l big (kindAt l big j) j) with h | h
      · exact h
      · exact absurd (by congr 1; omega) c3
    obtain ⟨r1, r2⟩ := H4
    have c0 : ∀ i : ExtW w2, i.w.cell? ⟨w1.heap.size, 0, none⟩ = some (.slice A n c) := fun i => (hb.ext i.h).cell 0
    have c1 : ∀ i : ExtW w2, i.w.cell? ⟨w1.heap.size, 1, none⟩ = some (.bool big) := fun i => (hb.ext i.h).cell 1
    clear hb HP
    go_wp2_with fail
    refine wp_region_ext (by kernel_rfl) (by kernel_rfl) ?_
    repeat
      refine wpQuiet_step (fun K hK => ?_)
      go_simp
      first
        | (refine hK _ ?_; clear hK K)
        | (refine ⟨_, fun _ => rfl, ?_⟩; refine hK _ ?_; clear hK K)
        | (apply Exists.intro
           refine ⟨fun _ => ?_, hK _ ?_⟩
           (first | (go_at_call 35; exact ext_call (walkerKind_ok (hl2.ext (ExtW.h _)) _ (by omega) (by omega))) | (go_at_call 34; exact ext_call (overR_ok (hl2.ext (ExtW.h _)) j _ (by omega) (by omega) hn)))
           clear hK K)
    refine wpQuiet_nil ?_
    rintro _ ⟨i, rfl⟩
    clear c0 c1
    go_wp2_with fail
    go_ret2
    exact ⟨by rw [HB.out]; simp; rw [IntWalk.i64_in _ (by omega)]; omega, he.trans i.h⟩
  · rw [if_pos h0] at HB
    clear hb HP
    go_wp2_with fail
    all_goals
      go_ret2
      exact ⟨by rw [HB.out]; simp; omega, he⟩

end Go.Proofs.Ytmhgndjmcignjaa
