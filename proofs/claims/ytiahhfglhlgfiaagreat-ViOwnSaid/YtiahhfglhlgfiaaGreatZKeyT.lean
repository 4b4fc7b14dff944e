/-
  Part ZKeyT.
-/
import Derived.Test.YtiahhfglhlgfiaaGreatZKeyX
set_option maxRecDepth 100000
set_option maxHeartbeats 16000000
set_option linter.unusedVariables false
set_option linter.unusedSimpArgs false
namespace Go.Proofs.YtiahhfglhlgfiaaGreat
open Go.RowKit
section
variable {f r o s wt:Int}
theorem Fu (h:F5 ⟨f,r,o,s,wt⟩=true):0≤f∧f≤999∧0≤s∧s≤999∧(o=0→s≤0)∧(r=0∨r≠0∧X2 r=true)∧(o=0∨o≠0∧Gb o=true)∧Cz ⟨f,r,o,s,wt⟩=true:=by
 simp only[F5,Kv,P4]at h;simp at h;obtain⟨⟨⟨h1,h2⟩,h3,h4⟩,h5⟩:=h;refine⟨by omega,by omega,by omega,by omega,?_,?_,?_,h5⟩
 ·intro e;rcases h2 with h2|h2
  ·exact h2
  ·exact absurd e h2
 ·by_cases hr:r=0
  ·exact .inl hr
  ·exact .inr ⟨hr,by rcases h3 with h|h;exact absurd h hr;exact h⟩
 ·by_cases ho:o=0
  ·exact .inl ho
  ·exact .inr ⟨ho,by rcases h4 with h|h;exact absurd h ho;exact h⟩
theorem eE (h:Cz ⟨f,r,o,s,wt⟩=true):wt=0∨wt=102∨wt=70∨wt=116∨wt=84∨wt=114∨wt=34∨wt=105∨wt=97:=by
 unfold Cz at h;simp only at h;split at h
 ·rename_i h1;simp at h1;omega
 ·split at h
  ·rename_i h1;simp at h1;omega
  ·split at h
   ·rename_i h1;simp at h1;omega
   ·cases h
theorem yA {bl bo:Bool}{w:World}(hx:Al w (w.alloc (.cells #[.int .i64 f,.int .i64 r,.int .i64 o,.int .i64 s,.int .i64 wt] 36)))(HL:Hid (∀w,Calls Tryz.prog 88 #[.int .i64 r] w fun e w'=>e=.returned (.bool bl)∧w=w'))(HO:Hid (∀w,Calls Tryz.prog 89 #[.int .i64 o] w fun e w'=>e=.returned (.bool bo)∧w=w'))
 (h:Calls Tryz.prog 49 #[.agg #[.int .i64 f,.int .i64 r,.int .i64 o,.int .i64 s,.int .i64 wt]] w fun e w'=>e=.returned (.int .i64 0)∧Al w w':=by(go_enter Tryz.func49,Tryz.ntmps49;go_wp2_with (first|(go_at_call 88;refine(HL.out _).mono ?_;rintro e w' ⟨rfl,rfl⟩)|(go_at_call 89;refine(HO.out _).mono ?_;rintro e w' ⟨rfl,rfl⟩));all_goals go_ret;all_goals exact⟨rfl,hx⟩)):Calls Tryz.prog 49 #[.agg #[.int .i64 f,.int .i64 r,.int .i64 o,.int .i64 s,.int .i64 wt]] w fun e w'=>e=.returned (.int .i64 0)∧Al w w':=h
theorem Q2 (hwt:wt=0∨wt=102∨wt=70∨wt=116∨wt=84)(w:World)(h:F5 ⟨f,r,o,s,wt⟩=true):Calls Tryz.prog 49 #[Ja ⟨f,r,o,s,wt⟩] w fun e w'=>e=.returned (.int .i64 0)∧Al w w':=by
 obtain⟨h1,h2,h3,h4,h5,hr,ho,hw⟩:=Fu h;have HL:=A4 (Nh r);have HO:=A4 (Ky o);have hx:=Al.alloc w (.cells #[.int .i64 f,.int .i64 r,.int .i64 o,.int .i64 s,.int .i64 wt] 36);clear h;unfold Ja;simp only;rcases hr with rfl|⟨hr0,hr⟩
 ·exact I19
 ·have hrb:(r !=0)=true:=by simpa using hr0
  have hrc:(r==0)=false:=by simpa using hr0
  rw[hr]at HL;exact I19
theorem sT (hwt:wt=114)(w:World)(h:F5 ⟨f,r,o,s,wt⟩=true):Calls Tryz.prog 49 #[Ja ⟨f,r,o,s,wt⟩] w fun e w'=>e=.returned (.int .i64 0)∧Al w w':=by
 have N0:=trivial;exact zM
theorem sS (hwt:wt=34)(w:World)(h:F5 ⟨f,r,o,s,wt⟩=true):Calls Tryz.prog 49 #[Ja ⟨f,r,o,s,wt⟩] w fun e w'=>e=.returned (.int .i64 0)∧Al w w':=by
 have N1:=trivial;exact zM
theorem fC (hwt:wt=105∨wt=97)(w:World)(h:F5 ⟨f,r,o,s,wt⟩=true):Calls Tryz.prog 49 #[Ja ⟨f,r,o,s,wt⟩] w fun e w'=>e=.returned (.int .i64 0)∧Al w w':=by
 obtain⟨h1,h2,h3,h4,h5,hr,ho,hw⟩:=Fu h;have HL:=A4 (Nh r);have HO:=A4 (Ky o);have hx:=Al.alloc w (.cells #[.int .i64 f,.int .i64 r,.int .i64 o,.int .i64 s,.int .i64 wt] 36);clear h;unfold Ja;simp only;rcases hr with rfl|⟨hr0,hr⟩
 ·rcases ho with rfl|⟨ho0,ho⟩
  ·have hs0:s=0:=by have h6:=h5 rfl;omega
   subst hs0;exfalso;revert hw;rcases hwt with rfl|rfl<;>simp[Cz]
  ·exact I54
 ·have hrb:(r !=0)=true:=by simpa using hr0
  have hrc:(r==0)=false:=by simpa using hr0
  rw[hr]at HL;rcases ho with rfl|⟨ho0,ho⟩
  ·have hs0:s=0:=by have h6:=h5 rfl;omega
   subst hs0;exfalso;revert hw;rcases hwt with rfl|rfl<;>simp[Cz,hr0]
  ·exact I54
theorem Qn {p:Pt}(w:World)(h:F5 p=true):Calls Tryz.prog 49 #[Ja p] w fun e w'=>e=.returned (.int .i64 0)∧Al w w':=by
 obtain⟨f,r,o,s,wt⟩:=p;rcases eE (Fu h).2.2.2.2.2.2.2 with rfl|rfl|rfl|rfl|rfl|rfl|rfl|rfl|rfl
 ·exact Q2 (by simp) w h
 ·exact Q2 (by simp) w h
 ·exact Q2 (by simp) w h
 ·exact Q2 (by simp) w h
 ·exact Q2 (by simp) w h
 ·exact sT (by simp) w h
 ·exact sS (by simp) w h
 ·exact fC (by simp) w h
 ·exact fC (by simp) w h
end
