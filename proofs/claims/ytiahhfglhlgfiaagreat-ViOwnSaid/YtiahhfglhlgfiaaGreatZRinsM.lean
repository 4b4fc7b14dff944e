/-
  Part ZRinsM.
-/
import Derived.Test.YtiahhfglhlgfiaaGreatZRegA
set_option maxRecDepth 100000
set_option maxHeartbeats 16000000
set_option linter.unusedVariables false
set_option linter.unusedSimpArgs false
namespace Go.Proofs.YtiahhfglhlgfiaaGreat.RS
open Go.RowKit
structure Sl where
 a:Option Addr
 n:Nat
 c:Nat
def Sl.v (s:Sl):Value:=.slice s.a s.n s.c
def Sl.zero:Sl:=⟨none,0,0⟩
def gS (l:List Sl)(k:Nat):Sl:=l[k]?.getD Sl.zero
def OwnS (w:World)(base:Nat)(A:Option Addr)(n c:Nat)(l:List Sl):Prop:=Ay w base 27 1 A n c (l.map Sl.v)
theorem OwnS.nil (w:World)(base:Nat):OwnS w base none 0 0 []:=World.ownsRow_nil w base _ _
def slotsOk (l ss:List Sl)(n j:Nat):Prop:=ss.length=n∧∀k,k<j→j≤k+n→gS ss (k%n)=gS l k
theorem slots_start (l ss:List Sl){n:Nat}(h:ss.length=n):slotsOk l ss n 0:=⟨h,fun k hk=>absurd hk (Nat.not_lt_zero _)⟩
theorem slots_push {l ss:List Sl}{n j:Nat}(hn:0<n)(h:slotsOk l ss n j):slotsOk l (ss.set (j%n) (gS l j)) n (j+1):=by
 obtain⟨h1,h2⟩:=h;have hj:j%n<n:=Nat.mod_lt _ hn;refine⟨by simp[h1],fun k hk hk2=>?_⟩
 rcases Nat.lt_or_ge k j with h|h
 ·have hne:j%n≠k%n:=fun e=>by
   have h3:=Nat.sub_mod_eq_zero_of_mod_eq e;rw[Nat.mod_eq_of_lt (by omega)]at h3
   omega
  rw[←h2 k h (by omega)]
  unfold gS;rw[List.getElem?_set_ne hne]
 ·obtain rfl:k=j:=by omega
  unfold gS;rw[List.getElem?_set_self (by omega)]
  rfl
theorem slots_at {l ss:List Sl}{n j k:Nat}(hn:0<n)(h:slotsOk l ss n j)(hk:k<min j n):gS ss (((j-min j n)%n+k)%n)=gS l (j-min j n+k):=by
 rw[Nat.mod_add_mod];exact h.2 _ (by omega) (by omega)
end Go.Proofs.YtiahhfglhlgfiaaGreat.RS
