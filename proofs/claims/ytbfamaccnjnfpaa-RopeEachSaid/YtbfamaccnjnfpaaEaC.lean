/-
  Each: the walk.
-/
import Derived.Test.YtbfamaccnjnfpaaEaB
import Derived.Laws.EntriesVeiled
namespace Go.Proofs.Ytbfamaccnjnfpaa
open Go.RowKit
set_option linter.unusedVariables false
set_option linter.unusedSimpArgs false

theorem Ext.grownBy {w w' : World} (h : Ext w w') (row : Option Nat) : w.grownBy w' row :=
  ⟨Below.os h, Below.tape h, Below.output h, h.hsize, fun k hk _ => Below.block h k hk⟩

theorem each_start (W : World) (a : Option Addr) (l : Nat) : Ext W ((((W.alloc (.cells #[.pointer a] 26)).alloc (.cells #[.func (.yield l) #[] #[]] 33)).alloc (.cells #[.int .i64 0] 3)).alloc (.cells #[.func (.func 8) #[] #[.pointer (some ⟨W.heap.size + 1 + 1 + 1, 0, none⟩), .pointer (some ⟨W.heap.size + 1, 0, none⟩), .pointer (some ⟨W.heap.size + 1 + 1, 0, none⟩)]] 34)) ∧ IterAt W.heap.size l ((((W.alloc (.cells #[.pointer a] 26)).alloc (.cells #[.func (.yield l) #[] #[]] 33)).alloc (.cells #[.int .i64 0] 3)).alloc (.cells #[.func (.func 8) #[] #[.pointer (some ⟨W.heap.size + 1 + 1 + 1, 0, none⟩), .pointer (some ⟨W.heap.size + 1, 0, none⟩), .pointer (some ⟨W.heap.size + 1 + 1, 0, none⟩)]] 34)) 0 := by
  refine ⟨(((Ext.alloc W _).to_alloc _).to_alloc _).to_alloc _, ⟨?_, ?_, ?_⟩⟩
  · have := Blk.ext (Blk.new (W.alloc (.cells #[.pointer a] 26)) 33 #[.func (.yield l) #[] #[]]) ((Ext.alloc ((W.alloc (.cells #[.pointer a] 26)).alloc (.cells #[.func (.yield l) #[] #[]] 33)) (.cells #[.int .i64 0] 3)).to_alloc (.cells #[.func (.func 8) #[] #[.pointer (some ⟨W.heap.size + 1 + 1 + 1, 0, none⟩), .pointer (some ⟨W.heap.size + 1, 0, none⟩), .pointer (some ⟨W.heap.size + 1 + 1, 0, none⟩)]] 34))
    simpa using this
  · have := Blk.ext (Blk.new ((W.alloc (.cells #[.pointer a] 26)).alloc (.cells #[.func (.yield l) #[] #[]] 33)) 3 #[.int .i64 0]) (Ext.alloc (((W.alloc (.cells #[.pointer a] 26)).alloc (.cells #[.func (.yield l) #[] #[]] 33)).alloc (.cells #[.int .i64 0] 3)) (.cells #[.func (.func 8) #[] #[.pointer (some ⟨W.heap.size + 1 + 1 + 1, 0, none⟩), .pointer (some ⟨W.heap.size + 1, 0, none⟩), .pointer (some ⟨W.heap.size + 1 + 1, 0, none⟩)]] 34))
    simpa using this
  · have := Blk.new (((W.alloc (.cells #[.pointer a] 26)).alloc (.cells #[.func (.yield l) #[] #[]] 33)).alloc (.cells #[.int .i64 0] 3)) 34 #[.func (.func 8) #[] #[.pointer (some ⟨W.heap.size + 1 + 1 + 1, 0, none⟩), .pointer (some ⟨W.heap.size + 1, 0, none⟩), .pointer (some ⟨W.heap.size + 1 + 1, 0, none⟩)]]
    simpa using this

set_option maxRecDepth 20000 in
set_option maxHeartbeats 4000000 in
theorem each_ok {l : Nat} {all : List Int} {T : AT} {J Jx : List Int → World → Prop} {W : World} (hTa : T.toL = all) (hall : all.length ≤ 100000) (hY : RoundsAt W.heap.size l all J Jx) (hJc : Counts W.heap.size J)
    (hIn : ∀ s W', J s W' → InMem W' W.heap.size T) (h0 : J [] W) :
    Calls Try.prog 5 #[.agg #[.pointer T.ad], .func (.yield l) #[] #[]] W fun e W' => (∃ v, e = .returned v) ∧ (J all W' ∨ ∃ q, q <+: all ∧ Jx q W') := by
  have HE := Lib.hid (each_all hY hJc hall T)
  have HIn := Lib.hid hIn
  have HJC := Lib.hid hJc
  have H0 := Lib.hid h0
  have HTa := Lib.hid hTa
  clear hY hJc hIn h0 hall hTa
  go_enter Try.func5, Try.ntmps5
  go_wp2_with fail
  obtain ⟨hx, hI⟩ := each_start W T.ad l
  refine (HE.out [] _ (HJC.out _ _ _ H0.out (hx.grownBy _)) HIn.out hI (by simp [HTa.out])).mono ?_
  clear hx hI
  rintro e W' (⟨rfl, hJ, _⟩ | ⟨rfl, q, hq, hx⟩)
  · have H := Lib.hid hJ
    clear hJ
    go_wp2_with fail
    go_end0
    exact ⟨⟨_, rfl⟩, .inl (by simpa [HTa.out] using H.out)⟩
  · have H : Hid (∃ q, q <+: all ∧ Jx q W') := Lib.hid ⟨q, by rw [← HTa.out]; exact hq, by simpa using hx⟩
    clear hx hq
    go_wp2_with fail
    go_end0
    exact ⟨⟨_, rfl⟩, .inr H.out⟩
end Go.Proofs.Ytbfamaccnjnfpaa
