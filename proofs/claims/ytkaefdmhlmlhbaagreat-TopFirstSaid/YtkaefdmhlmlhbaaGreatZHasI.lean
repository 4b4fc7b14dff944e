/-
  Part ZHasI.
-/
import Derived.Test.YtkaefdmhlmlhbaaGreatZBase
set_option maxRecDepth 100000
set_option maxHeartbeats 16000000
set_option linter.unusedVariables false
set_option linter.unusedSimpArgs false
namespace Go.Proofs.YtkaefdmhlmlhbaaGreat
open Go.RowKit
open _root_.Go.Proofs.Tryz
section
variable {l:List Int}{A:Option Addr}
theorem J8k {k:Nat}(h:k<l.length):gI l k∈l:=by
 exact I159
theorem J8p {z:Int}(h:z∈l):∃k,k<l.length∧gI l k=z:=by
 obtain⟨k,hk,e⟩:=List.mem_iff_getElem.1 h;exact⟨k,hk,by unfold gI;rw[List.getElem?_eq_getElem hk];exact e⟩
theorem J8c {n c:Nat}{v:Int}{w:World}(hl:Bj w A n c l):
 Calls prog 47 #[.slice A n c,.int .i64 v] w fun e w'=>(∃z:Int,e=.returned (.int .i64 z) ∧ -1≤z∧z≤n∧(0≤z↔v∈l))∧An w w':=by
 have ab:=A6 hl.len;have aw:=hl.ncap;have aq:=hl.nmax;unfold maxLen at aq;go_enter func47,ntmps47
 go_wp2_with fail
 go_loopw [8] (fun i wr=>∃k:Nat,k≤n∧i=.int .i64 k∧Hid (∀j,j<k→gI l j≠v)∧An w wr) (fun i _=>n-(intOf i).toNat)
 case atStart=>exact⟨0,by omega,rfl,A6 (fun j h=>absurd h (by omega)),An.refl _⟩
 case round=>
  obtain⟨k,hk,rfl,HN,he⟩:=hrel;by_cases ae:k<n
  ·obtain⟨ad,rfl,hc⟩:=hl.at_ ae
   have c1:=he.cell (hc k ae);have HM:Hid (gI l k∈l):=A6 (J8k (by rw[ab.out];exact ae))
   have HS:Hid (gI l k≠v→∀j,j<k+1→gI l j≠v):=A6 (fun h j hj=>by
    rcases Nat.lt_or_ge j k with h1|h1
    ·exact HN.out j h1
    ·rw[show j=k by omega];exact h)
   clear hc;generalize gI l k=z at*;by_cases hz:v=z
   ·have b1:(v==z)=true:=by simpa using hz
    have HZ:=A6 hz;clear hz;go_wp2_with fail
    go_ret
    exact⟨⟨k,rfl,by omega,by omega,⟨fun _=>by rw[HZ.out];exact HM.out,fun _=>by omega⟩⟩,he⟩
   ·have b1:(v==z)=false:=by simpa using hz
    have kv:=A6 (HS.out (fun e=>hz e.symm))
    clear hz HS HM;go_wp2_with fail
    go_roundw
    case rel=>exact⟨k+1,by omega,by go_num,kv,he⟩
    case measure=>simp[intOf];omega
  ·obtain rfl:k=n:=by omega
   have HM:Hid (v∉l):=A6 (fun h=>by
    obtain⟨j,hj,e⟩:=J8p h;exact HN.out j (by rw[←ab.out];exact hj) e)
   go_wp2_with fail
   go_ret
   exact⟨⟨-1,rfl,by omega,by omega,⟨fun h=>by omega,fun h=>absurd h HM.out⟩⟩,he⟩
theorem J8o {n c:Nat}{v:Int}{w:World}(hl:Bj w A n c l):
 Calls prog 27 #[.slice A n c,.int .i64 v] w fun e w'=>(∃b:Bool,e=.returned (.bool b)∧(b=false→v∉l))∧An w w':=by
 have HC:=A6 (J8c (v:=v) hl);go_enter func27,ntmps27
 go_wp2_with fail
 refine HC.out.mono ?_
 rintro e w1 ⟨⟨z,rfl,h1,h2,h3⟩,he⟩;have HM:=A6 h3;clear h3 HC;by_cases hz:0≤z
 ·have hb:decide (0≤z)=true:=by simpa using hz
  go_wp2_with fail
  go_ret
  exact⟨⟨_,rfl,fun e=>by simp_all⟩,he⟩
 ·have hb:decide (0≤z)=false:=by simpa using hz
  have HN:Hid (v∉l):=A6 fun h=>hz (HM.out.2 h)
  go_wp2_with fail
  go_ret
  exact⟨⟨_,rfl,fun _=>HN.out⟩,he⟩
end
