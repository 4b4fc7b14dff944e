/-
  Part ZKeyX.
-/
import Derived.Test.YtiahhfglhlgfiaaGreatZKeyW
set_option maxRecDepth 100000
set_option maxHeartbeats 16000000
set_option linter.unusedVariables false
set_option linter.unusedSimpArgs false
namespace Go.Proofs.YtiahhfglhlgfiaaGreat
open Go.RowKit
def M0 (p:Pt)(k:Int):Prop:=∀w:World,Calls Tryz.prog 51 #[Ja p,.int .i64 k] w fun e w'=>e=.returned (.int .i64 (Bd p k))∧Al w w'
theorem Km {f r o s wt k z:Int}{b:Bool}(hz:Bd ⟨f,r,o,s,wt⟩ k=z)(hop:Gb k=b)(h:∀w,Al w (w.alloc (.cells #[.int .i64 f,.int .i64 r,.int .i64 o,.int .i64 s,.int .i64 wt] 36))→Hid (∀w:World,Calls Tryz.prog 89 #[.int .i64 k] w fun e w'=>e=.returned (.bool b)∧w=w')→Calls Tryz.prog 51 #[.agg #[.int .i64 f,.int .i64 r,.int .i64 o,.int .i64 s,.int .i64 wt],.int .i64 k] w fun e w'=>e=.returned (.int .i64 z)∧Al w w':=by(intro w hx HO;go_enter Tryz.func51,Tryz.ntmps51;go_wp2_with (go_at_call 89;refine(HO.out _).mono ?_;rintro e w' ⟨rfl,rfl⟩);go_ret;exact⟨rfl,hx⟩)):M0 ⟨f,r,o,s,wt⟩ k:=by
 intro w;rw[hz];unfold Ja;refine h w (Al.alloc w _) (A4 ?_);rw[←hop];exact Ky k
theorem vP (p:Pt)(k:Int)(hk:k=100∨k=99∨k=121):M0 p k:=by
 obtain⟨f,r,o,s,wt⟩:=p;by_cases ho:o=0
 ·subst ho
  rcases hk with rfl|rfl|rfl<;>exact Km (z:=3) (b:=true) (by simp[Bd,H8,Gb,Jy,Gv,F0]) rfl
 ·have hob:(o==0)=false:=by simpa using ho
  rcases hk with rfl|rfl|rfl<;>exact Km (z:=3) (b:=true) (by simp[Bd,H8,Gb,Jy,Gv,F0,ho]) rfl
theorem vO (p:Pt)(k:Int)(hk:k=104∨k=108∨k=94∨k=36∨k=124∨k=119∨k=87∨k=98∨k=66∨k=101∨k=69∨k=37∨k=59∨k=44):M0 p k:=by
 obtain⟨f,r,o,s,wt⟩:=p;by_cases ho:o=0
 ·subst ho
  rcases hk with rfl|rfl|rfl|rfl|rfl|rfl|rfl|rfl|rfl|rfl|rfl|rfl|rfl|rfl<;>exact Km (z:=5) (b:=false) (by simp[Bd,H8,Gb,Jy,Gv,F0]) rfl
 ·have hob:(o==0)=false:=by simpa using ho
  rcases hk with rfl|rfl|rfl|rfl|rfl|rfl|rfl|rfl|rfl|rfl|rfl|rfl|rfl|rfl<;>exact Km (z:=5) (b:=false) (by simp[Bd,H8,Gb,Jy,Gv,F0,ho]) rfl
theorem vN (p:Pt)(k:Int)(hk:k=102∨k=70∨k=116∨k=84):M0 p k:=by
 obtain⟨f,r,o,s,wt⟩:=p;by_cases ho:o=0
 ·subst ho
  rcases hk with rfl|rfl|rfl|rfl<;>exact Km (z:=4) (b:=false) (by simp[Bd,H8,Gb,Jy,Gv,F0]) rfl
 ·have hob:(o==0)=false:=by simpa using ho
  rcases hk with rfl|rfl|rfl|rfl<;>exact Km (z:=4) (b:=false) (by simp[Bd,H8,Gb,Jy,Gv,F0,ho]) rfl
theorem vM (p:Pt)(k:Int)(hk:k=105∨k=97):M0 p k:=by
 obtain⟨f,r,o,s,wt⟩:=p;by_cases ho:o=0
 ·subst ho
  rcases hk with rfl|rfl<;>exact Km (z:=6) (b:=false) (by simp[Bd,H8,Gb,Jy,Gv,F0]) rfl
 ·have hob:(o==0)=false:=by simpa using ho
  rcases hk with rfl|rfl<;>exact Km (z:=8) (b:=false) (by simp[Bd,H8,Gb,Jy,Gv,F0,ho]) rfl
theorem vL (p:Pt)(k:Int)(hk:k=73∨k=65∨k=115∨k=83∨k=67∨k=68∨k=120∨k=88∨k=112∨k=80∨k=89∨k=126∨k=117∨k=85∨k=46∨k=106∨k=107∨k=71∨k=47∨k=63∨k=110∨k=78∨k=82):M0 p k:=by
 obtain⟨f,r,o,s,wt⟩:=p;by_cases ho:o=0
 ·subst ho
  rcases hk with rfl|rfl|rfl|rfl|rfl|rfl|rfl|rfl|rfl|rfl|rfl|rfl|rfl|rfl|rfl|rfl|rfl|rfl|rfl|rfl|rfl|rfl|rfl<;>exact Km (z:=6) (b:=false) (by simp[Bd,H8,Gb,Jy,Gv,F0]) rfl
 ·have hob:(o==0)=false:=by simpa using ho
  rcases hk with rfl|rfl|rfl|rfl|rfl|rfl|rfl|rfl|rfl|rfl|rfl|rfl|rfl|rfl|rfl|rfl|rfl|rfl|rfl|rfl|rfl|rfl|rfl<;>exact Km (z:=0) (b:=false) (by simp[Bd,H8,Gb,Jy,Gv,F0,ho]) rfl
theorem vK (p:Pt)(k:Int)(hk:k=114):M0 p k:=by
 obtain⟨f,r,o,s,wt⟩:=p;by_cases ho:o=0
 ·subst ho
  subst hk<;>exact Km (z:=7) (b:=false) (by simp[Bd,H8,Gb,Jy,Gv,F0]) rfl
 ·have hob:(o==0)=false:=by simpa using ho
  subst hk<;>exact Km (z:=0) (b:=false) (by simp[Bd,H8,Gb,Jy,Gv,F0,ho]) rfl
theorem rK (p:Pt)(k:Int)(hk:k=34):M0 p k:=by
 obtain⟨f,r,o,s,wt⟩:=p;subst hk;by_cases ho:o=0
 ·subst ho
  by_cases hr:r=0
  ·subst hr
   exact Km (z:=2) (b:=false) (by simp[Bd,H8,Gb,Jy,Gv,F0]) rfl
  ·have hrb:(r==0)=false:=by simpa using hr
   exact Km (z:=0) (b:=false) (by simp[Bd,H8,Gb,Jy,Gv,F0,hr]) rfl
 ·have hob:(o==0)=false:=by simpa using ho
  exact Km (z:=0) (b:=false) (by simp[Bd,H8,Gb,Jy,Gv,F0,ho]) rfl
theorem rJ (p:Pt)(k:Int)(hk:k=48):M0 p k:=by
 obtain⟨f,r,o,s,wt⟩:=p;subst hk;by_cases ho:o=0
 ·subst ho
  by_cases hf:0<f
  ·exact Km (z:=1) (b:=false) (by simp[Bd,H8,X8,Gb,Jy,hf]) rfl
  ·exact Km (z:=5) (b:=false) (by simp[Bd,H8,X8,Gb,Jy,hf]) rfl
 ·have hob:(o==0)=false:=by simpa using ho
  by_cases hf:0<s
  ·exact Km (z:=1) (b:=false) (by simp[Bd,H8,X8,Gb,Jy,hf,ho]) rfl
  ·exact Km (z:=5) (b:=false) (by simp[Bd,H8,X8,Gb,Jy,hf,ho]) rfl
theorem nN (p:Pt)(k:Int)(h1:49≤k)(h2:k≤57):M0 p k:=by
 obtain⟨f,r,o,s,wt⟩:=p;have hop:Gb k=false:=by simp[Gb];omega
 by_cases ho:o=0
 ·subst ho
  exact I117
 ·have hob:(o==0)=false:=by simpa using ho
  exact I117
theorem iM (p:Pt)(k:Int)(hn:¬(k=100∨k=99∨k=121∨k=104∨k=108∨k=94∨k=36∨k=124∨k=119∨k=87∨k=98∨k=66∨k=101∨k=69∨k=37∨k=59∨k=44∨k=102∨k=70∨k=116∨k=84∨k=105∨k=97∨k=73∨k=65∨k=115∨k=83∨k=67∨k=68∨k=120∨k=88∨k=112∨k=80∨k=89∨k=126∨k=117∨k=85∨k=46∨k=106∨k=107∨k=71∨k=47∨k=63∨k=110∨k=78∨k=82∨k=114∨k=34∨k=48))(hd:¬(49≤k∧k≤57)):M0 p k:=by
 obtain⟨f,r,o,s,wt⟩:=p;obtain⟨b100,b99,b121,b104,b108,b94,b36,b124,b119,b87,b98,b66,b101,b69,b37,b59,b44,b102,b70,b116,b84,b105,b97,b73,b65,b115,b83,b67,b68,b120,b88,b112,b80,b89,b126,b117,b85,b46,b106,b107,b71,b47,b63,b110,b78,b82,b114,b34,b48⟩:(k==100)=false∧(k==99)=false∧(k==121)=false∧(k==104)=false∧(k==108)=false∧(k==94)=false∧(k==36)=false∧(k==124)=false∧(k==119)=false∧(k==87)=false∧(k==98)=false∧(k==66)=false∧(k==101)=false∧(k==69)=false∧(k==37)=false∧(k==59)=false∧(k==44)=false∧(k==102)=false∧(k==70)=false∧(k==116)=false∧(k==84)=false∧(k==105)=false∧(k==97)=false∧(k==73)=false∧(k==65)=false∧(k==115)=false∧(k==83)=false∧(k==67)=false∧(k==68)=false∧(k==120)=false∧(k==88)=false∧(k==112)=false∧(k==80)=false∧(k==89)=false∧(k==126)=false∧(k==117)=false∧(k==85)=false∧(k==46)=false∧(k==106)=false∧(k==107)=false∧(k==71)=false∧(k==47)=false∧(k==63)=false∧(k==110)=false∧(k==78)=false∧(k==82)=false∧(k==114)=false∧(k==34)=false∧(k==48)=false:=by simp only[beq_eq_false_iff_ne,ne_eq];simpa only[not_or]using hn
 clear hn;have hop:Gb k=false:=by unfold Gb;simp only[*];rfl
 have hz:Bd ⟨f,r,o,s,wt⟩ k=0:=by
  have hmo:Jy k=false:=by unfold Jy;simp only[*];rfl
  have hfi:Gv k=false:=by unfold Gv;simp only[*];rfl
  have hpl:F0 k=false:=by unfold F0;simp only[*];rfl
  have hdi:∀p,H8 p k=false:=by intro p;unfold H8;rw[b48];simp;omega
  simp only[beq_eq_false_iff_ne]at b105 b97 b34 b114;unfold Bd;simp[hop,hmo,hfi,hpl,hdi,b105,b97,b34,b114]
 by_cases h49:49≤k
 ·have h57:¬k≤57:=fun h=>hd ⟨h49,h⟩
  exact I72
 ·exact I72
theorem S8 (p:Pt)(k:Int):M0 p k:=by
 by_cases ha:k=100∨k=99∨k=121
 ·exact vP p k ha
 by_cases hb:k=104∨k=108∨k=94∨k=36∨k=124∨k=119∨k=87∨k=98∨k=66∨k=101∨k=69∨k=37∨k=59∨k=44
 ·exact vO p k hb
 by_cases hc:k=102∨k=70∨k=116∨k=84
 ·exact vN p k hc
 by_cases hd:k=105∨k=97
 ·exact vM p k hd
 by_cases he:k=73∨k=65∨k=115∨k=83∨k=67∨k=68∨k=120∨k=88∨k=112∨k=80∨k=89∨k=126∨k=117∨k=85∨k=46∨k=106∨k=107∨k=71∨k=47∨k=63∨k=110∨k=78∨k=82
 ·exact vL p k he
 by_cases hf:k=114
 ·exact vK p k hf
 by_cases h34:k=34
 ·exact rK p k h34
 by_cases h48:k=48
 ·exact rJ p k h48
 by_cases hd:49≤k∧k≤57
 ·exact nN p k hd.1 hd.2
 ·exact iM p k (by rintro h;simp only[not_or]at *;omega) hd
