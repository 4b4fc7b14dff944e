/-
  Part ZKeyT.
-/
import Derived.Test.YtkaefdmhlmlhbaaGreatZKeyX
set_option maxRecDepth 100000
set_option maxHeartbeats 16000000
set_option linter.unusedVariables false
set_option linter.unusedSimpArgs false
namespace Go.Proofs.YtkaefdmhlmlhbaaGreat
open Go.RowKit
open _root_.Go.Proofs.Tryz
section
variable {f r o s wt:Int}
theorem Gf (h:Ew ⟨f,r,o,s,wt⟩=true):0≤f∧f≤999∧0≤s∧s≤999∧(o=0→s≤0)∧(r=0∨r≠0∧Qq r=true)∧(o=0∨o≠0∧Fu o=true)∧Dc ⟨f,r,o,s,wt⟩=true:=by
 simp only[Ew,Le,Pr]at h;simp at h;obtain⟨⟨⟨h1,h2⟩,h3,h4⟩,h5⟩:=h;refine⟨by omega,by omega,by omega,by omega,?_,?_,?_,h5⟩
 ·intro e;rcases h2 with h2|h2
  ·exact h2
  ·exact absurd e h2
 ·by_cases hr:r=0
  ·exact .inl hr
  ·exact .inr ⟨hr,by rcases h3 with h|h;exact absurd h hr;exact h⟩
 ·by_cases ho:o=0
  ·exact .inl ho
  ·exact .inr ⟨ho,by rcases h4 with h|h;exact absurd h ho;exact h⟩
theorem kM (h:Dc ⟨f,r,o,s,wt⟩=true):wt=0∨wt=102∨wt=70∨wt=116∨wt=84∨wt=114∨wt=34∨wt=105∨wt=97:=by
 unfold Dc at h;simp only at h;split at h
 ·rename_i h1;simp at h1;omega
 ·split at h
  ·rename_i h1;simp at h1;omega
  ·split at h
   ·rename_i h1;simp at h1;omega
   ·cases h
theorem ckW {bl bo:Bool}{w:World}(hx:An w (w.alloc (.cells #[f,r,o,s,wt] 34)))(HL:Hid (∀w,Calls prog 135 #[.int .i64 r] w fun e w'=>e=.returned (.bool bl)∧w=w'))(HO:Hid (∀w,Calls prog 136 #[.int .i64 o] w fun e w'=>e=.returned (.bool bo)∧w=w'))
 (h:Calls prog 86 #[.agg #[f,r,o,s,wt]] w fun e w'=>e=.returned (.int .i64 0)∧An w w':=by(go_enter func86,ntmps86;go_wp2_with (first|(go_at_call 135;refine(HL.out _).mono ?_;rintro e w' ⟨rfl,rfl⟩)|(go_at_call 136;refine(HO.out _).mono ?_;rintro e w' ⟨rfl,rfl⟩));all_goals go_ret;all_goals exact⟨rfl,hx⟩)):Calls prog 86 #[.agg #[f,r,o,s,wt]] w fun e w'=>e=.returned (.int .i64 0)∧An w w':=h
theorem Sh (kj:wt=0∨wt=102∨wt=70∨wt=116∨wt=84)(w:World)(h:Ew ⟨f,r,o,s,wt⟩=true):Calls prog 86 #[Kb ⟨f,r,o,s,wt⟩] w fun e w'=>e=.returned (.int .i64 0)∧An w w':=by
 obtain⟨h1,h2,h3,h4,h5,hr,ho,hw⟩:=Gf h;have HL:=A6 (Qm r);have HO:=A6 (Ml o);have hx:=An.alloc w (.cells #[f,r,o,s,wt] 34);clear h;unfold Kb;simp only;rcases hr with rfl|⟨mm,hr⟩
 ·exact I20
 ·have VX:(r !=0)=true:=by simpa using mm
  have hrc:(r==0)=false:=by simpa using mm
  rw[hr]at HL;exact I20
theorem J1k (kj:wt=114)(w:World)(h:Ew ⟨f,r,o,s,wt⟩=true):Calls prog 86 #[Kb ⟨f,r,o,s,wt⟩] w fun e w'=>e=.returned (.int .i64 0)∧An w w':=by
 have N0:=trivial;exact K32
theorem J1j (kj:wt=34)(w:World)(h:Ew ⟨f,r,o,s,wt⟩=true):Calls prog 86 #[Kb ⟨f,r,o,s,wt⟩] w fun e w'=>e=.returned (.int .i64 0)∧An w w':=by
 have N1:=trivial;exact K32
theorem lR (kj:wt=105∨wt=97)(w:World)(h:Ew ⟨f,r,o,s,wt⟩=true):Calls prog 86 #[Kb ⟨f,r,o,s,wt⟩] w fun e w'=>e=.returned (.int .i64 0)∧An w w':=by
 obtain⟨h1,h2,h3,h4,h5,hr,ho,hw⟩:=Gf h;have HL:=A6 (Qm r);have HO:=A6 (Ml o);have hx:=An.alloc w (.cells #[f,r,o,s,wt] 34);clear h;unfold Kb;simp only;rcases hr with rfl|⟨mm,hr⟩
 ·rcases ho with rfl|⟨qn,ho⟩
  ·have gp:s=0:=by have h6:=h5 rfl;omega
   subst gp;exfalso;revert hw;rcases kj with rfl|rfl<;>simp[Dc]
  ·exact I57
 ·have VX:(r !=0)=true:=by simpa using mm
  have hrc:(r==0)=false:=by simpa using mm
  rw[hr]at HL;rcases ho with rfl|⟨qn,ho⟩
  ·have gp:s=0:=by have h6:=h5 rfl;omega
   subst gp;exfalso;revert hw;rcases kj with rfl|rfl<;>simp[Dc,mm]
  ·exact I57
theorem Tb {p:Pt}(w:World)(h:Ew p=true):Calls prog 86 #[Kb p] w fun e w'=>e=.returned (.int .i64 0)∧An w w':=by
 obtain⟨f,r,o,s,wt⟩:=p;rcases kM (Gf h).2.2.2.2.2.2.2 with rfl|rfl|rfl|rfl|rfl|rfl|rfl|rfl|rfl
 ·exact Sh (by simp) w h
 ·exact Sh (by simp) w h
 ·exact Sh (by simp) w h
 ·exact Sh (by simp) w h
 ·exact Sh (by simp) w h
 ·exact J1k (by simp) w h
 ·exact J1j (by simp) w h
 ·exact lR (by simp) w h
 ·exact lR (by simp) w h
end
