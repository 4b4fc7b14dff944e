/-
  Part ZKeyV1.
-/
import Derived.Test.YtiahhfglhlgfiaaGreatZKeyU
set_option maxRecDepth 100000
set_option maxHeartbeats 16000000
set_option linter.unusedVariables false
set_option linter.unusedSimpArgs false
namespace Go.Proofs.YtiahhfglhlgfiaaGreat
open Go.RowKit
section
variable {f r o s k wt:Int}
theorem lQ (hk:k<32)(w:World)(h:F5 ⟨f,r,o,s,wt⟩=true):Calls Tryz.prog 33 #[Ja ⟨f,r,o,s,wt⟩,.int .i64 k] w fun e w'=>e=.returned (Sd Er)∧Al w w':=by
 have N0:=trivial;exact yK
theorem lR {f r o s wt:Int}(w:World)(h:F5 ⟨f,r,o,s,wt⟩=true):Calls Tryz.prog 33 #[Ja ⟨f,r,o,s,wt⟩,.int .i64 127] w fun e w'=>e=.returned (Sd Er)∧Al w w':=by
 have N1:=trivial;exact yK
theorem bM (h32:¬k<32)(h127:k≠127)(hw:wt≠0)(w:World)(h:F5 ⟨f,r,o,s,wt⟩=true):Calls Tryz.prog 33 #[Ja ⟨f,r,o,s,wt⟩,.int .i64 k] w fun e w'=>e=.returned (Sd (Fl ⟨f,r,o,s,wt⟩ k))∧Al w w':=by
 have N2:=trivial;exact yK
theorem fV (h32:¬k<32)(h127:k≠127)(hz:Bd ⟨f,r,o,s,0⟩ k=0)(w:World)(h:F5 ⟨f,r,o,s,0⟩=true):Calls Tryz.prog 33 #[Ja ⟨f,r,o,s,0⟩,.int .i64 k] w fun e w'=>e=.returned (Sd Er)∧Al w w':=by
 have N0:=trivial;exact K9
theorem bG (h32:¬k<32)(h127:k≠127)(hz:Bd ⟨f,r,o,s,0⟩ k=2)(w:World)(h:F5 ⟨f,r,o,s,0⟩=true):Calls Tryz.prog 33 #[Ja ⟨f,r,o,s,0⟩,.int .i64 k] w fun e w'=>e=.returned (Sd ⟨⟨f,r,o,s,k⟩,Cm.zero,1⟩)∧Al w w':=by
 have N1:=trivial;exact K9
theorem bF (h32:¬k<32)(h127:k≠127)(hz:Bd ⟨f,r,o,s,0⟩ k=4)(w:World)(h:F5 ⟨f,r,o,s,0⟩=true):Calls Tryz.prog 33 #[Ja ⟨f,r,o,s,0⟩,.int .i64 k] w fun e w'=>e=.returned (Sd ⟨⟨f,r,o,s,k⟩,Cm.zero,1⟩)∧Al w w':=by
 have N2:=trivial;exact K9
theorem bE (h32:¬k<32)(h127:k≠127)(hz:Bd ⟨f,r,o,s,0⟩ k=7)(w:World)(h:F5 ⟨f,r,o,s,0⟩=true):Calls Tryz.prog 33 #[Ja ⟨f,r,o,s,0⟩,.int .i64 k] w fun e w'=>e=.returned (Sd ⟨⟨f,r,o,s,k⟩,Cm.zero,1⟩)∧Al w w':=by
 have N3:=trivial;exact K9
theorem bD (h32:¬k<32)(h127:k≠127)(hz:Bd ⟨f,r,o,s,0⟩ k=8)(w:World)(h:F5 ⟨f,r,o,s,0⟩=true):Calls Tryz.prog 33 #[Ja ⟨f,r,o,s,0⟩,.int .i64 k] w fun e w'=>e=.returned (Sd ⟨⟨f,r,o,s,k⟩,Cm.zero,1⟩)∧Al w w':=by
 have N4:=trivial;exact K9
theorem Zq (h32:¬k<32)(h127:k≠127)(hk:0≤k∧k≤255)(ho:o≠0)(hz:Bd ⟨f,r,o,s,0⟩ k=1)(w:World)(h:F5 ⟨f,r,o,s,0⟩=true):Calls Tryz.prog 33 #[Ja ⟨f,r,o,s,0⟩,.int .i64 k] w fun e w'=>e=.returned (Sd ⟨⟨f,r,o,Fb s k,0⟩,Cm.zero,1⟩)∧Al w w':=by
 have N5:=trivial;exact K9
theorem fX (h32:¬k<32)(h127:k≠127)(hz:Bd ⟨f,r,o,s,0⟩ k=5)(w:World)(h:F5 ⟨f,r,o,s,0⟩=true):Calls Tryz.prog 33 #[Ja ⟨f,r,o,s,0⟩,.int .i64 k] w fun e w'=>e=.returned (Sd ⟨Pt.zero,M9 ⟨f,r,o,s,0⟩ k 0,2⟩)∧Al w w':=by
 have N6:=trivial;exact K9
theorem fW (h32:¬k<32)(h127:k≠127)(hz:Bd ⟨f,r,o,s,0⟩ k=6)(w:World)(h:F5 ⟨f,r,o,s,0⟩=true):Calls Tryz.prog 33 #[Ja ⟨f,r,o,s,0⟩,.int .i64 k] w fun e w'=>e=.returned (Sd ⟨Pt.zero,M9 ⟨f,r,o,s,0⟩ k 0,2⟩)∧Al w w':=by
 have N7:=trivial;exact K9
theorem bH (h32:¬k<32)(h127:k≠127)(ho:o≠0)(hok:o=k)(hz:Bd ⟨f,r,o,s,0⟩ k=3)(w:World)(h:F5 ⟨f,r,o,s,0⟩=true):Calls Tryz.prog 33 #[Ja ⟨f,r,o,s,0⟩,.int .i64 k] w fun e w'=>e=.returned (Sd ⟨Pt.zero,M9 ⟨f,r,o,s,0⟩ k 0,2⟩)∧Al w w':=by
 have N8:=trivial;exact K9
theorem bL {f r s k:Int}(h32:¬k<32)(h127:k≠127)(hk:0≤k∧k≤255)  (hz:Bd ⟨f,r,0,s,0⟩ k=1)(w:World)(h:F5 ⟨f,r,0,s,0⟩=true):Calls Tryz.prog 33 #[Ja ⟨f,r,0,s,0⟩,.int .i64 k] w fun e w'=>e=.returned (Sd ⟨⟨Fb f k,r,0,s,0⟩,Cm.zero,1⟩)∧Al w w':=by
 have N9:=trivial;exact K9
theorem fT {f r s k:Int}(h32:¬k<32)(h127:k≠127)(hz:Bd ⟨f,r,0,s,0⟩ k=3)(w:World)(h:F5 ⟨f,r,0,s,0⟩=true):Calls Tryz.prog 33 #[Ja ⟨f,r,0,s,0⟩,.int .i64 k] w fun e w'=>e=.returned (Sd ⟨⟨f,r,k,s,0⟩,Cm.zero,1⟩)∧Al w w':=by
 have N10:=trivial;exact K9
theorem bJ (h32:¬k<32)(h127:k≠127)(ho:o≠0)(hok:o≠k)(hz:Bd ⟨f,r,o,s,0⟩ k=3)(w:World)(h:F5 ⟨f,r,o,s,0⟩=true):Calls Tryz.prog 33 #[Ja ⟨f,r,o,s,0⟩,.int .i64 k] w fun e w'=>e=.returned (Sd Er)∧Al w w':=by
 have N11:=trivial;exact K9
theorem cT (p:Pt)(k:Int):Bd p k=0∨Bd p k=1∨Bd p k=2∨Bd p k=3∨Bd p k=4∨Bd p k=5∨Bd p k=6∨Bd p k=7∨Bd p k=8:=by
 unfold Bd
 (repeat' split)<;>decide
theorem cU {p:Pt}(h:Bd p k=1):0≤k∧k≤255:=by
 have hdb:H8 p k=true:=by
  unfold Bd at h;split at h
  ·assumption
  ·exfalso;revert h;(repeat' split)<;>decide
 unfold H8 at hdb;simp at hdb;omega
theorem Zr {p:Pt}(w:World)(h:F5 p=true):Calls Tryz.prog 33 #[Ja p,.int .i64 k] w fun e w'=>e=.returned (Sd (Cp p k))∧Al w w':=by
 obtain⟨f,r,o,s,wt⟩:=p;by_cases h32:k<32
 ·have e:Cp ⟨f,r,o,s,wt⟩ k=Er:=by unfold Cp;rw[if_pos (.inl h32)]
  rw[e];exact lQ h32 w h
 by_cases h127:k=127
 ·subst h127
  have e:Cp ⟨f,r,o,s,wt⟩ 127=Er:=by unfold Cp;rw[if_pos (.inr rfl)]
  rw[e];exact lR w h
 have hn:¬(k<32∨k=127):=fun hh=>hh.elim h32 h127
 by_cases hw:wt=0
 rotate_left
 ·have e:Cp ⟨f,r,o,s,wt⟩ k=Fl ⟨f,r,o,s,wt⟩ k:=by unfold Cp;rw[if_neg hn];exact if_pos hw
  rw[e];exact bM h32 h127 hw w h
 subst hw;rcases cT ⟨f,r,o,s,0⟩ k with hz|hz|hz|hz|hz|hz|hz|hz|hz
 ·have e:Cp ⟨f,r,o,s,0⟩ k=Er:=by unfold Cp;rw[if_neg hn,if_neg (by simp)];simp[hz]
  rw[e];exact fV h32 h127 hz w h
 ·have hk:=cU hz
  by_cases ho:o=0
  ·subst ho
   have e:Cp ⟨f,r,0,s,0⟩ k=⟨⟨Fb f k,r,0,s,0⟩,Cm.zero,1⟩:=by unfold Cp;rw[if_neg hn,if_neg (by simp)];simp[hz]
   rw[e];exact bL h32 h127 hk hz w h
  ·have e:Cp ⟨f,r,o,s,0⟩ k=⟨⟨f,r,o,Fb s k,0⟩,Cm.zero,1⟩:=by unfold Cp;rw[if_neg hn,if_neg (by simp)];simp[hz,ho]
   rw[e];exact Zq h32 h127 hk ho hz w h
 ·have e:Cp ⟨f,r,o,s,0⟩ k=⟨⟨f,r,o,s,k⟩,Cm.zero,1⟩:=by unfold Cp;rw[if_neg hn,if_neg (by simp)];simp[hz]
  rw[e];exact bG h32 h127 hz w h
 ·by_cases ho:o=0
  ·subst ho
   have e:Cp ⟨f,r,0,s,0⟩ k=⟨⟨f,r,k,s,0⟩,Cm.zero,1⟩:=by unfold Cp;rw[if_neg hn,if_neg (by simp)];simp[hz]
   rw[e];exact fT h32 h127 hz w h
  ·by_cases hok:o=k
   ·have e:Cp ⟨f,r,o,s,0⟩ k=⟨Pt.zero,M9 ⟨f,r,o,s,0⟩ k 0,2⟩:=by unfold Cp;rw[if_neg hn,if_neg (by simp)];rw[if_neg (by rw[hz];decide),if_neg (by rw[hz];decide),if_pos hz,if_neg ho,if_neg (fun hh=>hh hok)]
    rw[e];exact bH h32 h127 ho hok hz w h
   ·have e:Cp ⟨f,r,o,s,0⟩ k=Er:=by unfold Cp;rw[if_neg hn,if_neg (by simp)];rw[if_neg (by rw[hz];decide),if_neg (by rw[hz];decide),if_pos hz,if_neg ho,if_pos hok]
    rw[e];exact bJ h32 h127 ho hok hz w h
 ·have e:Cp ⟨f,r,o,s,0⟩ k=⟨⟨f,r,o,s,k⟩,Cm.zero,1⟩:=by unfold Cp;rw[if_neg hn,if_neg (by simp)];simp[hz]
  rw[e];exact bF h32 h127 hz w h
 ·have e:Cp ⟨f,r,o,s,0⟩ k=⟨Pt.zero,M9 ⟨f,r,o,s,0⟩ k 0,2⟩:=by unfold Cp;rw[if_neg hn,if_neg (by simp)];simp[hz]
  rw[e];exact fX h32 h127 hz w h
 ·have e:Cp ⟨f,r,o,s,0⟩ k=⟨Pt.zero,M9 ⟨f,r,o,s,0⟩ k 0,2⟩:=by unfold Cp;rw[if_neg hn,if_neg (by simp)];simp[hz]
  rw[e];exact fW h32 h127 hz w h
 ·have e:Cp ⟨f,r,o,s,0⟩ k=⟨⟨f,r,o,s,k⟩,Cm.zero,1⟩:=by unfold Cp;rw[if_neg hn,if_neg (by simp)];simp[hz]
  rw[e];exact bE h32 h127 hz w h
 ·have e:Cp ⟨f,r,o,s,0⟩ k=⟨⟨f,r,o,s,k⟩,Cm.zero,1⟩:=by unfold Cp;rw[if_neg hn,if_neg (by simp)];simp[hz]
  rw[e];exact bD h32 h127 hz w h
theorem nM {p:Pt}(w:World)(h:F5 p=true):Calls Tryz.prog 33 #[Ja p,.int .i64 k] w fun e w'=>e=.returned (Sd (Cp p k))∧Al w w':=Zr w h
end
