/-
  Part ZKeyW.
-/
import Derived.Test.YtkaefdmhlmlhbaaGreatZBase
import Derived.IntWalk
import Derived.Laws.StructEq
import Derived.Deep.RegionHeld3
import Derived.Deep.RegionWith
set_option maxRecDepth 100000
set_option maxHeartbeats 16000000
set_option linter.unusedVariables false
set_option linter.unusedSimpArgs false
namespace Go.Proofs.YtkaefdmhlmlhbaaGreat
open Go.RowKit
open _root_.Nat renaming le_refl→Aj,lt_succ_self→Br
open Value renaming slice→Ak
section
variable {f r o s k wt v:Int}{w:World}{A:Option Addr}{a0 a1 a2 a3 a4:Value}{p:Pt}{cs:Array Value}{g t n c:Nat}
def Ji (p:Pt):Value:=.agg #[.int .i64 p.first,.int .i64 p.reg,.int .i64 p.op,.int .i64 p.second,.int .i64 p.wait]
def tC (c:Cm):Value:=.agg #[.int .i64 c.count,.int .i64 c.reg,.int .i64 c.op,.int .i64 c.verb,.int .i64 c.arg]
theorem Ps (c:Int)(w:World):Calls Tryz.prog 135 #[.int .i64 c] w fun e w'=>e=.returned (.bool (Wp c))∧w=w':=by
 obtain⟨z,hz⟩:∃z,Wp c=z:=⟨_,rfl⟩;rw[hz];have HZ:=A6 hz;clear hz;go_enter Tryz.func135,Tryz.ntmps135
 go_wp2_with fail
 all_goals go_ret
 all_goals refine⟨Gf ?_,rfl⟩
 all_goals (rw[←HZ.out,Bool.eq_iff_iff];unfold Wp;simp;try omega)
theorem Lt (c:Int)(w:World):Calls Tryz.prog 136 #[.int .i64 c] w fun e w'=>e=.returned (.bool (H8 c))∧w=w':=by
 obtain⟨z,hz⟩:∃z,H8 c=z:=⟨_,rfl⟩;rw[hz];have HZ:=A6 hz;clear hz;go_enter Tryz.func136,Tryz.ntmps136
 go_wp2_with fail
 all_goals go_ret
 all_goals refine⟨Gf ?_,rfl⟩
 all_goals (rw[←HZ.out];unfold H8;simp_all)
theorem Wc (n k:Int)(w:World)(hn:0≤n∧n≤999)(hk:0≤k∧k≤255):Calls Tryz.prog 89 #[.int .i64 n,.int .i64 k] w fun e w'=>e=.returned (.int .i64 (Ez n k))∧w=w':=by
 obtain⟨h1,h2⟩:=hn;obtain⟨h3,h4⟩:=hk;go_enter Tryz.func89,Tryz.ntmps89
 go_wp2_with fail
 all_goals go_ret
 all_goals exact⟨Jb (by unfold Ez;omega),rfl⟩
theorem oS (p:Pt)(w:World)(hf:0≤p.first∧p.first≤999)(hs:0≤p.second∧p.second≤999):Calls Tryz.prog 137 #[Ji p] w fun e w'=>e=.returned (.int .i64 (Yl p))∧An w w':=by
 obtain⟨f,r,o,s,wt⟩:=p;obtain⟨h1,h2⟩:=hf;obtain⟨h3,h4⟩:=hs;have hx:=An.alloc w (.cells #[.int .i64 f,.int .i64 r,.int .i64 o,.int .i64 s,.int .i64 wt] 34);obtain⟨z,hz⟩:∃z,Yl ⟨f,r,o,s,wt⟩=z:=⟨_,rfl⟩;rw[hz];have HZ:=A6 hz;have hm:IntKind.i64.wrap (f*s)=f*s:=by
  have a1:0≤f*s:=Int.mul_nonneg h1 h3;have a2:f*s≤999*999:=Int.mul_le_mul h2 h4 h3 (by decide)
  rw[IntWalk.i64_in _ (by omega)]
 clear hz;unfold Ji;go_enter Tryz.func137,Tryz.ntmps137
 go_wp2_with fail
 all_goals go_ret
 all_goals refine⟨Jb ?_,hx⟩
 all_goals (rw[←HZ.out];unfold Yl;simp_all)
 all_goals (clear hm;generalize f*s=m at *;omega)
theorem Lu (b0 b1 b2 b3 b4:Value)(h:Aq w g t #[a0,a1,a2,a3,a4]):Aq (((((w.setCell ⟨g,0,none⟩ b0).setCell ⟨g,1,none⟩ b1).setCell ⟨g,2,none⟩ b2).setCell ⟨g,3,none⟩ b3).setCell ⟨g,4,none⟩ b4) g t #[b0,b1,b2,b3,b4]:=by
 simpa using((((h.set_ 0 b0).set_ 1 b1).set_ 2 b2).set_ 3 b3).set_ 4 b4
theorem Aq.setNq (h:Aq w g t cs){p:Addr}(hp:p.block≠g)(u:Value):Aq (w.setCell p u) g t cs:=
 (Below.heap_setCell w p u g (fun e=>hp e.symm)).trans h
theorem Cv {g g' t:Nat}(b0 b1 b2 b3 b4:Value)(h:Aq w g' t cs)(hne:g≠g'):Aq (((((w.setCell ⟨g,0,none⟩ b0).setCell ⟨g,1,none⟩ b1).setCell ⟨g,2,none⟩ b2).setCell ⟨g,3,none⟩ b3).setCell ⟨g,4,none⟩ b4) g' t cs:=
 ((((h.setNq (p:=⟨g,0,none⟩) hne b0).setNq (p:=⟨g,1,none⟩) hne b1).setNq (p:=⟨g,2,none⟩) hne b2).setNq (p:=⟨g,3,none⟩) hne b3).setNq (p:=⟨g,4,none⟩) hne b4
theorem Db {w0 w:World}{g:Nat}(b0 b1 b2 b3 b4:Value)(h:An w0 w)(hg:w0.heap.size≤g):An w0 (((((w.setCell ⟨g,0,none⟩ b0).setCell ⟨g,1,none⟩ b1).setCell ⟨g,2,none⟩ b2).setCell ⟨g,3,none⟩ b3).setCell ⟨g,4,none⟩ b4):=
 ((((h.setCell (p:=⟨g,0,none⟩) hg b0).setCell (p:=⟨g,1,none⟩) hg b1).setCell (p:=⟨g,2,none⟩) hg b2).setCell (p:=⟨g,3,none⟩) hg b3).setCell (p:=⟨g,4,none⟩) hg b4
def J1j (w:World)(g:Nat)(a0 a1 a2 a3 a4:Value):Prop:=
 (w.cell? ⟨g,0,none⟩=some a0∧w.cell? ⟨g,1,none⟩=some a1∧w.cell? ⟨g,2,none⟩=some a2∧w.cell? ⟨g,3,none⟩=some a3∧w.cell? ⟨g,4,none⟩=some a4)∧
 (w.frozen? ⟨g,0,none⟩=false∧w.frozen? ⟨g,1,none⟩=false∧w.frozen? ⟨g,2,none⟩=false∧w.frozen? ⟨g,3,none⟩=false∧w.frozen? ⟨g,4,none⟩=false)
theorem Aq.five (h:Aq w g t #[a0,a1,a2,a3,a4]):J1j w g a0 a1 a2 a3 a4:=
 ⟨⟨h.cell 0,h.cell 1,h.cell 2,h.cell 3,h.cell 4⟩,⟨h.frozen 0,h.frozen 1,h.frozen 2,h.frozen 3,h.frozen 4⟩⟩
theorem Ld (p:Pt)(v a:Int)(w:World)(hf:0≤p.first∧p.first≤999)(hs:0≤p.second∧p.second≤999):
 Calls Tryz.prog 90 #[Ji p,.int .i64 v,.int .i64 a] w fun e w'=>e=.returned (tC (Nm p v a))∧An w w':=by
 have HT:Hid (∀wq:World,Calls Tryz.prog 137 #[Ji p] wq fun e w'=>e=.returned (.int .i64 (Yl p))∧An wq w'):=A6 fun wq=>oS p wq hf hs
 clear hf hs;obtain⟨z,hz⟩:∃z,Yl p=z:=⟨_,rfl⟩;rw[hz]at HT;unfold Nm;rw[hz];clear hz;obtain⟨f,r,o,s,wt⟩:=p;unfold Ji at*;unfold tC;simp only at*;have hb0:=(Aq.new w 34 #[.int .i64 f,.int .i64 r,.int .i64 o,.int .i64 s,.int .i64 wt]).ext (An.alloc _ (.cells #[.int .i64 0,.int .i64 0,.int .i64 0,.int .i64 0,.int .i64 0] 62));have hb1:=Aq.new (w.alloc (.cells #[.int .i64 f,.int .i64 r,.int .i64 o,.int .i64 s,.int .i64 wt] 34)) 62 #[.int .i64 0,.int .i64 0,.int .i64 0,.int .i64 0,.int .i64 0];rw[show(w.alloc (.cells #[.int .i64 f,.int .i64 r,.int .i64 o,.int .i64 s,.int .i64 wt] 34)).heap.size=w.heap.size+1 by simp]at hb1
 have hx:=(An.alloc w (.cells #[.int .i64 f,.int .i64 r,.int .i64 o,.int .i64 s,.int .i64 wt] 34)).to_alloc (.cells #[.int .i64 0,.int .i64 0,.int .i64 0,.int .i64 0,.int .i64 0] 62);go_enter Tryz.func90,Tryz.ntmps90
 go_wp2_with fail
 revert hb0 hb1 hx
 generalize (w.alloc (.cells #[.int .i64 f,.int .i64 r,.int .i64 o,.int .i64 s,.int .i64 wt] 34)).alloc (.cells #[.int .i64 0,.int .i64 0,.int .i64 0,.int .i64 0,.int .i64 0] 62)=W0;intro hb0 hb1 hx;have k0:=hb0.cell 0;have k1:=hb0.cell 1;have k2:=hb0.cell 2;have k3:=hb0.cell 3;have k4:=hb0.cell 4;simp only[List.getElem?_toArray,List.getElem?_cons_zero,List.getElem?_cons_succ]at k0 k1 k2 k3 k4;have hxd:=An.drew W0;have HW:Hid (∀w2,An W0 w2→J1j w2 w.heap.size (.int .i64 f) (.int .i64 r) (.int .i64 o) (.int .i64 s) (.int .i64 wt)):=A6 fun w2 he=>(hb0.ext he).five
 have HY:Hid (∀w2,An W0 w2→Aq w2 (w.heap.size+1) 62 #[.int .i64 0,.int .i64 0,.int .i64 0,.int .i64 0,.int .i64 0]):=A6 fun w2 he=>hb1.ext he
 have HX:Hid (∀w2,An W0 w2→An w w2):=A6 fun w2 he=>hx.trans he
 clear hb0 hb1 hx;go_region_with (first
  |(
   go_at_call 137
   refine(HT.out _).mono ?_
   rintro e w2 ⟨rfl,he2⟩;have hf2:=hxd.trans he2;obtain⟨⟨j0,j1,j2,j3,j4⟩,_⟩:=HW.out w2 hf2;obtain⟨⟨c0,c1,c2,c3,c4⟩,⟨f0,f1,f2,f3,f4⟩⟩:=(HY.out w2 hf2).five))
 all_goals
  have hB:=Lu (.int .i64 z) (.int .i64 r) (.int .i64 o) (.int .i64 v) (.int .i64 a) (HY.out w2 hf2);have hend:=Db (.int .i64 z) (.int .i64 r) (.int .i64 o) (.int .i64 v) (.int .i64 a) (HX.out w2 hf2) (Nat.le_succ w.heap.size);obtain⟨⟨e0,e1,e2,e3,e4⟩,_⟩:=hB.five;clear c0 c1 c2 c3 c4 f0 f1 f2 f3 f4 j0 j1 j2 j3 j4 k0 k1 k2 k3 k4 hB;go_wp2_with fail
  refine bodyPost_ret (by simp[results,Tryz.results90,go_sem,e0,e1,e2,e3,e4];try rfl) rfl ?_
  exact⟨rfl,hend⟩
def Ng (p:Pt)(k:Int):Prop:=∀w:World,Calls Tryz.prog 88 #[Ji p,.int .i64 k] w fun e w'=>e=.returned (.int .i64 (Be p k))∧An w w'
theorem Lf {f r o s wt k z:Int}{b:Bool}(hz:Be ⟨f,r,o,s,wt⟩ k=z)(hop:H8 k=b)(h:∀w,An w (w.alloc (.cells #[.int .i64 f,.int .i64 r,.int .i64 o,.int .i64 s,.int .i64 wt] 34))→Hid (∀w:World,Calls Tryz.prog 136 #[.int .i64 k] w fun e w'=>e=.returned (.bool b)∧w=w')→Calls Tryz.prog 88 #[.agg #[.int .i64 f,.int .i64 r,.int .i64 o,.int .i64 s,.int .i64 wt],.int .i64 k] w fun e w'=>e=.returned (.int .i64 z)∧An w w':=by(intro w hx HO;go_enter Tryz.func88,Tryz.ntmps88;go_wp2_with (go_at_call 136;refine(HO.out _).mono ?_;rintro e w' ⟨rfl,rfl⟩);go_ret;exact⟨rfl,hx⟩)):Ng ⟨f,r,o,s,wt⟩ k:=by
 intro w;rw[hz];unfold Ji;refine h w (An.alloc w _) (A6 ?_);rw[←hop];exact Lt k
theorem J0d (p:Pt)(k:Int)(hk:k=100∨k=99∨k=121):Ng p k:=by
 obtain⟨f,r,o,s,wt⟩:=p;by_cases ho:o=0
 ·subst ho
  rcases hk with rfl|rfl|rfl<;>exact Lf (z:=3) (b:=true) (by simp[Be,Hr,H8,Kw,Gq,Fp]) rfl
 ·have hob:(o==0)=false:=by simpa using ho
  rcases hk with rfl|rfl|rfl<;>exact Lf (z:=3) (b:=true) (by simp[Be,Hr,H8,Kw,Gq,Fp,ho]) rfl
theorem J0c (p:Pt)(k:Int)(hk:k=104∨k=108∨k=94∨k=36∨k=124∨k=119∨k=87∨k=98∨k=66∨k=101∨k=69∨k=37∨k=59∨k=44):Ng p k:=by
 obtain⟨f,r,o,s,wt⟩:=p;by_cases ho:o=0
 ·subst ho
  rcases hk with rfl|rfl|rfl|rfl|rfl|rfl|rfl|rfl|rfl|rfl|rfl|rfl|rfl|rfl<;>exact Lf (z:=5) (b:=false) (by simp[Be,Hr,H8,Kw,Gq,Fp]) rfl
 ·have hob:(o==0)=false:=by simpa using ho
  rcases hk with rfl|rfl|rfl|rfl|rfl|rfl|rfl|rfl|rfl|rfl|rfl|rfl|rfl|rfl<;>exact Lf (z:=5) (b:=false) (by simp[Be,Hr,H8,Kw,Gq,Fp,ho]) rfl
theorem J0b (p:Pt)(k:Int)(hk:k=102∨k=70∨k=116∨k=84):Ng p k:=by
 obtain⟨f,r,o,s,wt⟩:=p;by_cases ho:o=0
 ·subst ho
  rcases hk with rfl|rfl|rfl|rfl<;>exact Lf (z:=4) (b:=false) (by simp[Be,Hr,H8,Kw,Gq,Fp]) rfl
 ·have hob:(o==0)=false:=by simpa using ho
  rcases hk with rfl|rfl|rfl|rfl<;>exact Lf (z:=4) (b:=false) (by simp[Be,Hr,H8,Kw,Gq,Fp,ho]) rfl
theorem J0a (p:Pt)(k:Int)(hk:k=105∨k=97):Ng p k:=by
 obtain⟨f,r,o,s,wt⟩:=p;by_cases ho:o=0
 ·subst ho
  rcases hk with rfl|rfl<;>exact Lf (z:=6) (b:=false) (by simp[Be,Hr,H8,Kw,Gq,Fp]) rfl
 ·have hob:(o==0)=false:=by simpa using ho
  rcases hk with rfl|rfl<;>exact Lf (z:=8) (b:=false) (by simp[Be,Hr,H8,Kw,Gq,Fp,ho]) rfl
theorem zZ (p:Pt)(k:Int)(hk:k=73∨k=65∨k=115∨k=83∨k=67∨k=68∨k=120∨k=88∨k=112∨k=80∨k=89∨k=126∨k=117∨k=85∨k=46∨k=106∨k=107∨k=71∨k=47∨k=63∨k=110∨k=78∨k=82):Ng p k:=by
 obtain⟨f,r,o,s,wt⟩:=p;by_cases ho:o=0
 ·subst ho
  rcases hk with rfl|rfl|rfl|rfl|rfl|rfl|rfl|rfl|rfl|rfl|rfl|rfl|rfl|rfl|rfl|rfl|rfl|rfl|rfl|rfl|rfl|rfl|rfl<;>exact Lf (z:=6) (b:=false) (by simp[Be,Hr,H8,Kw,Gq,Fp]) rfl
 ·have hob:(o==0)=false:=by simpa using ho
  rcases hk with rfl|rfl|rfl|rfl|rfl|rfl|rfl|rfl|rfl|rfl|rfl|rfl|rfl|rfl|rfl|rfl|rfl|rfl|rfl|rfl|rfl|rfl|rfl<;>exact Lf (z:=0) (b:=false) (by simp[Be,Hr,H8,Kw,Gq,Fp,ho]) rfl
theorem zY (p:Pt)(k:Int)(hk:k=114):Ng p k:=by
 obtain⟨f,r,o,s,wt⟩:=p;by_cases ho:o=0
 ·subst ho
  subst hk<;>exact Lf (z:=7) (b:=false) (by simp[Be,Hr,H8,Kw,Gq,Fp]) rfl
 ·have hob:(o==0)=false:=by simpa using ho
  subst hk<;>exact Lf (z:=0) (b:=false) (by simp[Be,Hr,H8,Kw,Gq,Fp,ho]) rfl
theorem vH (p:Pt)(k:Int)(hk:k=34):Ng p k:=by
 obtain⟨f,r,o,s,wt⟩:=p;subst hk;by_cases ho:o=0
 ·subst ho
  by_cases hr:r=0
  ·subst hr
   exact Lf (z:=2) (b:=false) (by simp[Be,Hr,H8,Kw,Gq,Fp]) rfl
  ·have hrb:(r==0)=false:=by simpa using hr
   exact Lf (z:=0) (b:=false) (by simp[Be,Hr,H8,Kw,Gq,Fp,hr]) rfl
 ·have hob:(o==0)=false:=by simpa using ho
  exact Lf (z:=0) (b:=false) (by simp[Be,Hr,H8,Kw,Gq,Fp,ho]) rfl
theorem vG (p:Pt)(k:Int)(hk:k=48):Ng p k:=by
 obtain⟨f,r,o,s,wt⟩:=p;subst hk;by_cases ho:o=0
 ·subst ho
  by_cases hf:0<f
  ·exact Lf (z:=1) (b:=false) (by simp[Be,Hr,Ub,H8,Kw,hf]) rfl
  ·exact Lf (z:=5) (b:=false) (by simp[Be,Hr,Ub,H8,Kw,hf]) rfl
 ·have hob:(o==0)=false:=by simpa using ho
  by_cases hf:0<s
  ·exact Lf (z:=1) (b:=false) (by simp[Be,Hr,Ub,H8,Kw,hf,ho]) rfl
  ·exact Lf (z:=5) (b:=false) (by simp[Be,Hr,Ub,H8,Kw,hf,ho]) rfl
theorem qT (p:Pt)(k:Int)(h1:49≤k)(h2:k≤57):Ng p k:=by
 obtain⟨f,r,o,s,wt⟩:=p;have hop:H8 k=false:=by simp[H8];omega
 by_cases ho:o=0
 ·subst ho
  exact I117
 ·have hob:(o==0)=false:=by simpa using ho
  exact I117
theorem lF (p:Pt)(k:Int)(hn:¬(k=100∨k=99∨k=121∨k=104∨k=108∨k=94∨k=36∨k=124∨k=119∨k=87∨k=98∨k=66∨k=101∨k=69∨k=37∨k=59∨k=44∨k=102∨k=70∨k=116∨k=84∨k=105∨k=97∨k=73∨k=65∨k=115∨k=83∨k=67∨k=68∨k=120∨k=88∨k=112∨k=80∨k=89∨k=126∨k=117∨k=85∨k=46∨k=106∨k=107∨k=71∨k=47∨k=63∨k=110∨k=78∨k=82∨k=114∨k=34∨k=48))(hd:¬(49≤k∧k≤57)):Ng p k:=by
 obtain⟨f,r,o,s,wt⟩:=p;obtain⟨b100,b99,b121,b104,b108,b94,b36,b124,b119,b87,b98,b66,b101,b69,b37,b59,b44,b102,b70,b116,b84,b105,b97,b73,b65,b115,b83,b67,b68,b120,b88,b112,b80,b89,b126,b117,b85,b46,b106,b107,b71,b47,b63,b110,b78,b82,b114,b34,b48⟩:(k==100)=false∧(k==99)=false∧(k==121)=false∧(k==104)=false∧(k==108)=false∧(k==94)=false∧(k==36)=false∧(k==124)=false∧(k==119)=false∧(k==87)=false∧(k==98)=false∧(k==66)=false∧(k==101)=false∧(k==69)=false∧(k==37)=false∧(k==59)=false∧(k==44)=false∧(k==102)=false∧(k==70)=false∧(k==116)=false∧(k==84)=false∧(k==105)=false∧(k==97)=false∧(k==73)=false∧(k==65)=false∧(k==115)=false∧(k==83)=false∧(k==67)=false∧(k==68)=false∧(k==120)=false∧(k==88)=false∧(k==112)=false∧(k==80)=false∧(k==89)=false∧(k==126)=false∧(k==117)=false∧(k==85)=false∧(k==46)=false∧(k==106)=false∧(k==107)=false∧(k==71)=false∧(k==47)=false∧(k==63)=false∧(k==110)=false∧(k==78)=false∧(k==82)=false∧(k==114)=false∧(k==34)=false∧(k==48)=false:=by simp only[beq_eq_false_iff_ne,ne_eq];simpa only[not_or]using hn
 clear hn;have hop:H8 k=false:=by unfold H8;simp only[*];rfl
 have hz:Be ⟨f,r,o,s,wt⟩ k=0:=by
  have hmo:Kw k=false:=by unfold Kw;simp only[*];rfl
  have hfi:Gq k=false:=by unfold Gq;simp only[*];rfl
  have hpl:Fp k=false:=by unfold Fp;simp only[*];rfl
  have hdi:∀p,Hr p k=false:=by intro p;unfold Hr;rw[b48];simp;omega
  simp only[beq_eq_false_iff_ne]at b105 b97 b34 b114;unfold Be;simp[hop,hmo,hfi,hpl,hdi,b105,b97,b34,b114]
 by_cases h49:49≤k
 ·have h57:¬k≤57:=fun h=>hd ⟨h49,h⟩
  exact I74
 ·exact I74
theorem Tn (p:Pt)(k:Int):Ng p k:=by
 by_cases ha:k=100∨k=99∨k=121
 ·exact J0d p k ha
 by_cases hb:k=104∨k=108∨k=94∨k=36∨k=124∨k=119∨k=87∨k=98∨k=66∨k=101∨k=69∨k=37∨k=59∨k=44
 ·exact J0c p k hb
 by_cases hc:k=102∨k=70∨k=116∨k=84
 ·exact J0b p k hc
 by_cases hd:k=105∨k=97
 ·exact J0a p k hd
 by_cases he:k=73∨k=65∨k=115∨k=83∨k=67∨k=68∨k=120∨k=88∨k=112∨k=80∨k=89∨k=126∨k=117∨k=85∨k=46∨k=106∨k=107∨k=71∨k=47∨k=63∨k=110∨k=78∨k=82
 ·exact zZ p k he
 by_cases hf:k=114
 ·exact zY p k hf
 by_cases h34:k=34
 ·exact vH p k h34
 by_cases h48:k=48
 ·exact vG p k h48
 by_cases hd:49≤k∧k≤57
 ·exact qT p k hd.1 hd.2
 ·exact lF p k (by rintro h;simp only[not_or]at *;omega) hd
theorem Fy (h:Ey ⟨f,r,o,s,wt⟩=true):0≤f∧f≤999∧0≤s∧s≤999∧(o=0→s≤0)∧(r=0∨r≠0∧Wp r=true)∧(o=0∨o≠0∧H8 o=true)∧D6 ⟨f,r,o,s,wt⟩=true:=by
 simp only[Ey,Lp,Qc]at h;simp at h;obtain⟨⟨⟨h1,h2⟩,h3,h4⟩,h5⟩:=h;refine⟨by omega,by omega,by omega,by omega,?_,?_,?_,h5⟩
 ·intro e;rcases h2 with h2|h2
  ·exact h2
  ·exact absurd e h2
 ·by_cases hr:r=0
  ·exact .inl hr
  ·exact .inr ⟨hr,by rcases h3 with h|h;exact absurd h hr;exact h⟩
 ·by_cases ho:o=0
  ·exact .inl ho
  ·exact .inr ⟨ho,by rcases h4 with h|h;exact absurd h ho;exact h⟩
theorem gQ (h:D6 ⟨f,r,o,s,wt⟩=true):wt=0∨wt=102∨wt=70∨wt=116∨wt=84∨wt=114∨wt=34∨wt=105∨wt=97:=by
 unfold D6 at h;simp only at h;split at h
 ·rename_i h1;simp at h1;omega
 ·split at h
  ·rename_i h1;simp at h1;omega
  ·split at h
   ·rename_i h1;simp at h1;omega
   ·cases h
theorem ckW {bl bo:Bool}(hx:An w (w.alloc (.cells #[.int .i64 f,.int .i64 r,.int .i64 o,.int .i64 s,.int .i64 wt] 34)))(HL:Hid (∀w,Calls Tryz.prog 135 #[.int .i64 r] w fun e w'=>e=.returned (.bool bl)∧w=w'))(HO:Hid (∀w,Calls Tryz.prog 136 #[.int .i64 o] w fun e w'=>e=.returned (.bool bo)∧w=w'))
 (h:Calls Tryz.prog 86 #[.agg #[.int .i64 f,.int .i64 r,.int .i64 o,.int .i64 s,.int .i64 wt]] w fun e w'=>e=.returned (.int .i64 0)∧An w w':=by(go_enter Tryz.func86,Tryz.ntmps86;go_wp2_with (first|(go_at_call 135;refine(HL.out _).mono ?_;rintro e w' ⟨rfl,rfl⟩)|(go_at_call 136;refine(HO.out _).mono ?_;rintro e w' ⟨rfl,rfl⟩));all_goals go_ret;all_goals exact⟨rfl,hx⟩)):Calls Tryz.prog 86 #[.agg #[.int .i64 f,.int .i64 r,.int .i64 o,.int .i64 s,.int .i64 wt]] w fun e w'=>e=.returned (.int .i64 0)∧An w w':=h
theorem Rf (hwt:wt=0∨wt=102∨wt=70∨wt=116∨wt=84)(w:World)(h:Ey ⟨f,r,o,s,wt⟩=true):Calls Tryz.prog 86 #[Ji ⟨f,r,o,s,wt⟩] w fun e w'=>e=.returned (.int .i64 0)∧An w w':=by
 obtain⟨h1,h2,h3,h4,h5,hr,ho,hw⟩:=Fy h;have HL:=A6 (Ps r);have HO:=A6 (Lt o);have hx:=An.alloc w (.cells #[.int .i64 f,.int .i64 r,.int .i64 o,.int .i64 s,.int .i64 wt] 34);clear h;unfold Ji;simp only;rcases hr with rfl|⟨hr0,hr⟩
 ·exact I20
 ·have hrb:(r !=0)=true:=by simpa using hr0
  have hrc:(r==0)=false:=by simpa using hr0
  rw[hr]at HL;exact I20
theorem wS (hwt:wt=114)(w:World)(h:Ey ⟨f,r,o,s,wt⟩=true):Calls Tryz.prog 86 #[Ji ⟨f,r,o,s,wt⟩] w fun e w'=>e=.returned (.int .i64 0)∧An w w':=by
 have N0:=trivial;exact K32
theorem wR (hwt:wt=34)(w:World)(h:Ey ⟨f,r,o,s,wt⟩=true):Calls Tryz.prog 86 #[Ji ⟨f,r,o,s,wt⟩] w fun e w'=>e=.returned (.int .i64 0)∧An w w':=by
 have N1:=trivial;exact K32
theorem iT (hwt:wt=105∨wt=97)(w:World)(h:Ey ⟨f,r,o,s,wt⟩=true):Calls Tryz.prog 86 #[Ji ⟨f,r,o,s,wt⟩] w fun e w'=>e=.returned (.int .i64 0)∧An w w':=by
 obtain⟨h1,h2,h3,h4,h5,hr,ho,hw⟩:=Fy h;have HL:=A6 (Ps r);have HO:=A6 (Lt o);have hx:=An.alloc w (.cells #[.int .i64 f,.int .i64 r,.int .i64 o,.int .i64 s,.int .i64 wt] 34);clear h;unfold Ji;simp only;rcases hr with rfl|⟨hr0,hr⟩
 ·rcases ho with rfl|⟨ho0,ho⟩
  ·have hs0:s=0:=by have h6:=h5 rfl;omega
   subst hs0;exfalso;revert hw;rcases hwt with rfl|rfl<;>simp[D6]
  ·exact I53
 ·have hrb:(r !=0)=true:=by simpa using hr0
  have hrc:(r==0)=false:=by simpa using hr0
  rw[hr]at HL;rcases ho with rfl|⟨ho0,ho⟩
  ·have hs0:s=0:=by have h6:=h5 rfl;omega
   subst hs0;exfalso;revert hw;rcases hwt with rfl|rfl<;>simp[D6,hr0]
  ·exact I53
theorem Rz (w:World)(h:Ey p=true):Calls Tryz.prog 86 #[Ji p] w fun e w'=>e=.returned (.int .i64 0)∧An w w':=by
 obtain⟨f,r,o,s,wt⟩:=p;rcases gQ (Fy h).2.2.2.2.2.2.2 with rfl|rfl|rfl|rfl|rfl|rfl|rfl|rfl|rfl
 ·exact Rf (by simp) w h
 ·exact Rf (by simp) w h
 ·exact Rf (by simp) w h
 ·exact Rf (by simp) w h
 ·exact Rf (by simp) w h
 ·exact wS (by simp) w h
 ·exact wR (by simp) w h
 ·exact iT (by simp) w h
 ·exact iT (by simp) w h
def T6 (t:Tk):Value:=.tuple #[Ji t.p,tC t.c,.int .i64 t.how,.int .i64 0]
theorem three (a0 a1 a2 a3 a4 b0 b1 b2 b3 b4 c0 c1 c2 c3 c4:Value):
 Aq (((w.alloc (.cells #[a0,a1,a2,a3,a4] 34)).alloc (.cells #[b0,b1,b2,b3,b4] 34)).alloc (.cells #[c0,c1,c2,c3,c4] 62)) w.heap.size 34 #[a0,a1,a2,a3,a4]∧Aq (((w.alloc (.cells #[a0,a1,a2,a3,a4] 34)).alloc (.cells #[b0,b1,b2,b3,b4] 34)).alloc (.cells #[c0,c1,c2,c3,c4] 62)) (w.heap.size+1) 34 #[b0,b1,b2,b3,b4]∧Aq (((w.alloc (.cells #[a0,a1,a2,a3,a4] 34)).alloc (.cells #[b0,b1,b2,b3,b4] 34)).alloc (.cells #[c0,c1,c2,c3,c4] 62)) (w.heap.size+1+1) 62 #[c0,c1,c2,c3,c4]∧An w (((w.alloc (.cells #[a0,a1,a2,a3,a4] 34)).alloc (.cells #[b0,b1,b2,b3,b4] 34)).alloc (.cells #[c0,c1,c2,c3,c4] 62)):=by
 have h0:=((Aq.new w 34 #[a0,a1,a2,a3,a4]).ext (An.alloc _ (.cells #[b0,b1,b2,b3,b4] 34))).ext (An.alloc _ (.cells #[c0,c1,c2,c3,c4] 62));have h1:=(Aq.new (w.alloc (.cells #[a0,a1,a2,a3,a4] 34)) 34 #[b0,b1,b2,b3,b4]).ext (An.alloc _ (.cells #[c0,c1,c2,c3,c4] 62));have h2:=Aq.new ((w.alloc (.cells #[a0,a1,a2,a3,a4] 34)).alloc (.cells #[b0,b1,b2,b3,b4] 34)) 62 #[c0,c1,c2,c3,c4];rw[show(w.alloc (.cells #[a0,a1,a2,a3,a4] 34)).heap.size=w.heap.size+1 by simp]at h1
 rw[show((w.alloc (.cells #[a0,a1,a2,a3,a4] 34)).alloc (.cells #[b0,b1,b2,b3,b4] 34)).heap.size=w.heap.size+1+1 by simp]at h2
 exact⟨h0,h1,h2,((An.alloc _ _).to_alloc _).to_alloc _⟩
theorem cM (hl:Wp k=true)(w:World):Calls Tryz.prog 87 #[Ji ⟨f,r,o,s,34⟩,.int .i64 k] w fun e w'=>e=.returned (T6 ⟨⟨f,k,o,s,0⟩,Cm.zero,1⟩)∧An w w':=by
 have N0:=trivial;exact K40
theorem mZ (hl:Wp k=false)(w:World):Calls Tryz.prog 87 #[Ji ⟨f,r,o,s,34⟩,.int .i64 k] w fun e w'=>e=.returned (T6 E0)∧An w w':=by
 have N1:=trivial;exact K40
theorem Jv (hv:(v=102∨v=70∨v=116∨v=84∨v=114)∨(v=105∨v=97)∧(k=119∨k=87∨k=40∨k=41∨k=91∨k=93∨k=123∨k=125∨k=34∨k=39∨k=96))(hf:0≤f∧f≤999)(hs:0≤s∧s≤999)(w:World):Calls Tryz.prog 87 #[Ji ⟨f,r,o,s,v⟩,.int .i64 k] w fun e w'=>e=.returned (T6 ⟨Pt.zero,Nm ⟨f,r,o,s,v⟩ v k,2⟩)∧An w w':=by
 obtain⟨hb0,hb1,hb2,hx⟩:=three (w:=w) (.int .i64 f) (.int .i64 r) (.int .i64 o) (.int .i64 s) (.int .i64 v) (.int .i64 0) (.int .i64 0) (.int .i64 0) (.int .i64 0) (.int .i64 0) (.int .i64 0) (.int .i64 0) (.int .i64 0) (.int .i64 0) (.int .i64 0);have HC:Hid (∀wq:World,_):=A6 fun(wq:World)=>Ld ⟨f,r,o,s,v⟩ v k wq hf hs
 unfold Ji tC at HC;simp only at HC;unfold Nm at HC;simp only at HC;obtain⟨Tt,ht⟩:∃Tt,Yl ⟨f,r,o,s,v⟩=Tt:=⟨_,rfl⟩;rw[ht]at HC;have HT:=A6 ht;clear ht hf hs;unfold Ji;simp only;obtain⟨u,hu⟩:∃u,u=v:=⟨_,rfl⟩;obtain⟨j,hj⟩:∃j,j=k:=⟨_,rfl⟩;rcases hv with(rfl|rfl|rfl|rfl|rfl)|⟨rfl|rfl,rfl|rfl|rfl|rfl|rfl|rfl|rfl|rfl|rfl|rfl|rfl⟩
 all_goals (
  go_enter Tryz.func87,Tryz.ntmps87
  go_wp2_with fail
  refine(HC.out _).mono ?_
  rintro e w1 ⟨rfl,he1⟩;have HB1:=hb1.ext he1;have HB2:=hb2.ext he1;have heW:=hx.trans he1;clear hb0 hb1 hb2 hx;have hB1:=Cv (.int .i64 Tt) (.int .i64 r) (.int .i64 o) (.int .i64 u) (.int .i64 j) (Lu (.int .i64 0) (.int .i64 0) (.int .i64 0) (.int .i64 0) (.int .i64 0) HB1) (show w.heap.size+1+1≠w.heap.size+1 by omega)
  have hB2:=Lu (.int .i64 Tt) (.int .i64 r) (.int .i64 o) (.int .i64 u) (.int .i64 j) (Cv (.int .i64 0) (.int .i64 0) (.int .i64 0) (.int .i64 0) (.int .i64 0) HB2 (show w.heap.size+1≠w.heap.size+1+1 by omega))
  have hend:=Db (.int .i64 Tt) (.int .i64 r) (.int .i64 o) (.int .i64 u) (.int .i64 j) (Db (.int .i64 0) (.int .i64 0) (.int .i64 0) (.int .i64 0) (.int .i64 0) heW (Nat.le_succ w.heap.size)) (show w.heap.size≤w.heap.size+1+1 by omega)
  subst hu hj;obtain⟨⟨e0,e1,e2,e3,e4⟩,_⟩:=hB1.five;obtain⟨⟨d0,d1,d2,d3,d4⟩,_⟩:=hB2.five;obtain⟨⟨c0,c1,c2,c3,c4⟩,⟨f0,f1,f2,f3,f4⟩⟩:=Aq.five HB1;obtain⟨⟨x0,x1,x2,x3,x4⟩,⟨y0,y1,y2,y3,y4⟩⟩:=Aq.five HB2;clear hB1 hB2;clear HB1 HB2 heW HC he1;go_wp2_with fail
  refine bodyPost_ret (by simp[results,Tryz.results87,go_sem,e0,e1,e2,e3,e4,d0,d1,d2,d3,d4];try rfl) rfl ?_
  exact⟨by rw[←HT.out];rfl,hend⟩)
theorem bN (hv:v=105∨v=97)(hn:¬(k=119∨k=87∨k=40∨k=41∨k=91∨k=93∨k=123∨k=125∨k=34∨k=39∨k=96))(w:World):Calls Tryz.prog 87 #[Ji ⟨f,r,o,s,v⟩,.int .i64 k] w fun e w'=>e=.returned (T6 E0)∧An w w':=by
 obtain⟨b119,b87,b40,b41,b91,b93,b123,b125,b34,b39,b96⟩:(k==119)=false∧(k==87)=false∧(k==40)=false∧(k==41)=false∧(k==91)=false∧(k==93)=false∧(k==123)=false∧(k==125)=false∧(k==34)=false∧(k==39)=false∧(k==96)=false:=by simp only[beq_eq_false_iff_ne,ne_eq];simpa only[not_or]using hn
 clear hn;unfold Ji;simp only;rcases hv with rfl|rfl
 all_goals (
  go_enter Tryz.func87,Tryz.ntmps87
  go_wp2_with fail
  obtain⟨_,hB1,hB2,hend⟩:=three (w:=w) (.int .i64 f) (.int .i64 r) (.int .i64 o) (.int .i64 s) (.int .i64 _) (.int .i64 0) (.int .i64 0) (.int .i64 0) (.int .i64 0) (.int .i64 0) (.int .i64 0) (.int .i64 0) (.int .i64 0) (.int .i64 0) (.int .i64 0);obtain⟨⟨e0,e1,e2,e3,e4⟩,_⟩:=hB1.five;obtain⟨⟨d0,d1,d2,d3,d4⟩,_⟩:=hB2.five;refine bodyPost_ret (by simp[results,Tryz.results87,go_sem,e0,e1,e2,e3,e4,d0,d1,d2,d3,d4];try rfl) rfl ?_
  exact⟨rfl,hend⟩)
theorem fZ (w:World)(h:Ey p=true)(hw:p.wait≠0):Calls Tryz.prog 87 #[Ji p,.int .i64 k] w fun e w'=>e=.returned (T6 (G4 p k))∧An w w':=by
 obtain⟨f,r,o,s,wt⟩:=p;obtain⟨h1,h2,h3,h4,h5,hr,ho,hwt⟩:=Fy h;rcases gQ hwt with rfl|rfl|rfl|rfl|rfl|rfl|rfl|rfl|rfl
 ·exact absurd rfl hw
 ·exact Jv (by simp) ⟨h1,h2⟩ ⟨h3,h4⟩ w
 ·exact Jv (by simp) ⟨h1,h2⟩ ⟨h3,h4⟩ w
 ·exact Jv (by simp) ⟨h1,h2⟩ ⟨h3,h4⟩ w
 ·exact Jv (by simp) ⟨h1,h2⟩ ⟨h3,h4⟩ w
 ·exact Jv (by simp) ⟨h1,h2⟩ ⟨h3,h4⟩ w
 ·cases hl:Wp k with
  |true=>
   have e:G4 ⟨f,r,o,s,34⟩ k=⟨⟨f,k,o,s,0⟩,Cm.zero,1⟩:=by simp[G4,hl]
   rw[e];exact cM hl w
  |false=>
   have e:G4 ⟨f,r,o,s,34⟩ k=E0:=by simp[G4,hl]
   rw[e];exact mZ hl w
 ·by_cases hk:k=119∨k=87∨k=40∨k=41∨k=91∨k=93∨k=123∨k=125∨k=34∨k=39∨k=96
  ·have e:G4 ⟨f,r,o,s,105⟩ k=⟨Pt.zero,Nm ⟨f,r,o,s,105⟩ 105 k,2⟩:=by rcases hk with rfl|rfl|rfl|rfl|rfl|rfl|rfl|rfl|rfl|rfl|rfl<;>rfl
   rw[e];exact Jv (Or.inr ⟨by simp,hk⟩) ⟨h1,h2⟩ ⟨h3,h4⟩ w
  have e:G4 ⟨f,r,o,s,105⟩ k=E0:=by simp only[not_or]at hk;simp[G4,yC,hk]
  rw[e];exact bN (by simp) hk w
 ·by_cases hk:k=119∨k=87∨k=40∨k=41∨k=91∨k=93∨k=123∨k=125∨k=34∨k=39∨k=96
  ·have e:G4 ⟨f,r,o,s,97⟩ k=⟨Pt.zero,Nm ⟨f,r,o,s,97⟩ 97 k,2⟩:=by rcases hk with rfl|rfl|rfl|rfl|rfl|rfl|rfl|rfl|rfl|rfl|rfl<;>rfl
   rw[e];exact Jv (Or.inr ⟨by simp,hk⟩) ⟨h1,h2⟩ ⟨h3,h4⟩ w
  have e:G4 ⟨f,r,o,s,97⟩ k=E0:=by simp only[not_or]at hk;simp[G4,yC,hk]
  rw[e];exact bN (by simp) hk w
theorem oV (hk:k<32)(w:World)(h:Ey ⟨f,r,o,s,wt⟩=true):Calls Tryz.prog 65 #[Ji ⟨f,r,o,s,wt⟩,.int .i64 k] w fun e w'=>e=.returned (T6 E0)∧An w w':=by
 have N0:=trivial;exact K18
theorem oW (w:World)(h:Ey ⟨f,r,o,s,wt⟩=true):Calls Tryz.prog 65 #[Ji ⟨f,r,o,s,wt⟩,.int .i64 127] w fun e w'=>e=.returned (T6 E0)∧An w w':=by
 have N1:=trivial;exact K18
theorem dV (h32:¬k<32)(h127:k≠127)(hw:wt≠0)(w:World)(h:Ey ⟨f,r,o,s,wt⟩=true):Calls Tryz.prog 65 #[Ji ⟨f,r,o,s,wt⟩,.int .i64 k] w fun e w'=>e=.returned (T6 (G4 ⟨f,r,o,s,wt⟩ k))∧An w w':=by
 have N2:=trivial;exact K18
theorem jO (h32:¬k<32)(h127:k≠127)(hz:Be ⟨f,r,o,s,0⟩ k=0)(w:World)(h:Ey ⟨f,r,o,s,0⟩=true):Calls Tryz.prog 65 #[Ji ⟨f,r,o,s,0⟩,.int .i64 k] w fun e w'=>e=.returned (T6 E0)∧An w w':=by
 have N0:=trivial;exact K9
theorem dP (h32:¬k<32)(h127:k≠127)(hz:Be ⟨f,r,o,s,0⟩ k=2)(w:World)(h:Ey ⟨f,r,o,s,0⟩=true):Calls Tryz.prog 65 #[Ji ⟨f,r,o,s,0⟩,.int .i64 k] w fun e w'=>e=.returned (T6 ⟨⟨f,r,o,s,k⟩,Cm.zero,1⟩)∧An w w':=by
 have N1:=trivial;exact K9
theorem dO (h32:¬k<32)(h127:k≠127)(hz:Be ⟨f,r,o,s,0⟩ k=4)(w:World)(h:Ey ⟨f,r,o,s,0⟩=true):Calls Tryz.prog 65 #[Ji ⟨f,r,o,s,0⟩,.int .i64 k] w fun e w'=>e=.returned (T6 ⟨⟨f,r,o,s,k⟩,Cm.zero,1⟩)∧An w w':=by
 have N2:=trivial;exact K9
theorem dN (h32:¬k<32)(h127:k≠127)(hz:Be ⟨f,r,o,s,0⟩ k=7)(w:World)(h:Ey ⟨f,r,o,s,0⟩=true):Calls Tryz.prog 65 #[Ji ⟨f,r,o,s,0⟩,.int .i64 k] w fun e w'=>e=.returned (T6 ⟨⟨f,r,o,s,k⟩,Cm.zero,1⟩)∧An w w':=by
 have N3:=trivial;exact K9
theorem dM (h32:¬k<32)(h127:k≠127)(hz:Be ⟨f,r,o,s,0⟩ k=8)(w:World)(h:Ey ⟨f,r,o,s,0⟩=true):Calls Tryz.prog 65 #[Ji ⟨f,r,o,s,0⟩,.int .i64 k] w fun e w'=>e=.returned (T6 ⟨⟨f,r,o,s,k⟩,Cm.zero,1⟩)∧An w w':=by
 have N4:=trivial;exact K9
theorem bW (h32:¬k<32)(h127:k≠127)(hk:0≤k∧k≤255)(ho:o≠0)(hz:Be ⟨f,r,o,s,0⟩ k=1)(w:World)(h:Ey ⟨f,r,o,s,0⟩=true):Calls Tryz.prog 65 #[Ji ⟨f,r,o,s,0⟩,.int .i64 k] w fun e w'=>e=.returned (T6 ⟨⟨f,r,o,Ez s k,0⟩,Cm.zero,1⟩)∧An w w':=by
 have N5:=trivial;exact K9
theorem jQ (h32:¬k<32)(h127:k≠127)(hz:Be ⟨f,r,o,s,0⟩ k=5)(w:World)(h:Ey ⟨f,r,o,s,0⟩=true):Calls Tryz.prog 65 #[Ji ⟨f,r,o,s,0⟩,.int .i64 k] w fun e w'=>e=.returned (T6 ⟨Pt.zero,Nm ⟨f,r,o,s,0⟩ k 0,2⟩)∧An w w':=by
 have N6:=trivial;exact K9
theorem jP (h32:¬k<32)(h127:k≠127)(hz:Be ⟨f,r,o,s,0⟩ k=6)(w:World)(h:Ey ⟨f,r,o,s,0⟩=true):Calls Tryz.prog 65 #[Ji ⟨f,r,o,s,0⟩,.int .i64 k] w fun e w'=>e=.returned (T6 ⟨Pt.zero,Nm ⟨f,r,o,s,0⟩ k 0,2⟩)∧An w w':=by
 have N7:=trivial;exact K9
theorem dQ (h32:¬k<32)(h127:k≠127)(ho:o≠0)(hok:o=k)(hz:Be ⟨f,r,o,s,0⟩ k=3)(w:World)(h:Ey ⟨f,r,o,s,0⟩=true):Calls Tryz.prog 65 #[Ji ⟨f,r,o,s,0⟩,.int .i64 k] w fun e w'=>e=.returned (T6 ⟨Pt.zero,Nm ⟨f,r,o,s,0⟩ k 0,2⟩)∧An w w':=by
 have N8:=trivial;exact K9
theorem dU {f r s k:Int}(h32:¬k<32)(h127:k≠127)(hk:0≤k∧k≤255)  (hz:Be ⟨f,r,0,s,0⟩ k=1)(w:World)(h:Ey ⟨f,r,0,s,0⟩=true):Calls Tryz.prog 65 #[Ji ⟨f,r,0,s,0⟩,.int .i64 k] w fun e w'=>e=.returned (T6 ⟨⟨Ez f k,r,0,s,0⟩,Cm.zero,1⟩)∧An w w':=by
 have N9:=trivial;exact K9
theorem jM {f r s k:Int}(h32:¬k<32)(h127:k≠127)(hz:Be ⟨f,r,0,s,0⟩ k=3)(w:World)(h:Ey ⟨f,r,0,s,0⟩=true):Calls Tryz.prog 65 #[Ji ⟨f,r,0,s,0⟩,.int .i64 k] w fun e w'=>e=.returned (T6 ⟨⟨f,r,k,s,0⟩,Cm.zero,1⟩)∧An w w':=by
 have N10:=trivial;exact K9
theorem dS (h32:¬k<32)(h127:k≠127)(ho:o≠0)(hok:o≠k)(hz:Be ⟨f,r,o,s,0⟩ k=3)(w:World)(h:Ey ⟨f,r,o,s,0⟩=true):Calls Tryz.prog 65 #[Ji ⟨f,r,o,s,0⟩,.int .i64 k] w fun e w'=>e=.returned (T6 E0)∧An w w':=by
 have N11:=trivial;exact K9
theorem eX (p:Pt)(k:Int):Be p k=0∨Be p k=1∨Be p k=2∨Be p k=3∨Be p k=4∨Be p k=5∨Be p k=6∨Be p k=7∨Be p k=8:=by
 unfold Be
 (repeat' split)<;>decide
theorem eY (h:Be p k=1):0≤k∧k≤255:=by
 have hdb:Hr p k=true:=by
  unfold Be at h;split at h
  ·assumption
  ·exfalso;revert h;(repeat' split)<;>decide
 unfold Hr at hdb;simp at hdb;omega
theorem Tg (w:World)(h:Ey p=true):Calls Tryz.prog 65 #[Ji p,.int .i64 k] w fun e w'=>e=.returned (T6 (Cc p k))∧An w w':=by
 obtain⟨f,r,o,s,wt⟩:=p;by_cases h32:k<32
 ·have e:Cc ⟨f,r,o,s,wt⟩ k=E0:=by unfold Cc;rw[if_pos (.inl h32)]
  rw[e];exact oV h32 w h
 by_cases h127:k=127
 ·subst h127
  have e:Cc ⟨f,r,o,s,wt⟩ 127=E0:=by unfold Cc;rw[if_pos (.inr rfl)]
  rw[e];exact oW w h
 have hn:¬(k<32∨k=127):=fun hh=>hh.elim h32 h127
 by_cases hw:wt=0
 rotate_left
 ·have e:Cc ⟨f,r,o,s,wt⟩ k=G4 ⟨f,r,o,s,wt⟩ k:=by unfold Cc;rw[if_neg hn];exact if_pos hw
  rw[e];exact dV h32 h127 hw w h
 subst hw;rcases eX ⟨f,r,o,s,0⟩ k with hz|hz|hz|hz|hz|hz|hz|hz|hz
 ·have e:Cc ⟨f,r,o,s,0⟩ k=E0:=by unfold Cc;rw[if_neg hn,if_neg (by simp)];simp[hz]
  rw[e];exact jO h32 h127 hz w h
 ·have hk:=eY hz
  by_cases ho:o=0
  ·subst ho
   have e:Cc ⟨f,r,0,s,0⟩ k=⟨⟨Ez f k,r,0,s,0⟩,Cm.zero,1⟩:=by unfold Cc;rw[if_neg hn,if_neg (by simp)];simp[hz]
   rw[e];exact dU h32 h127 hk hz w h
  ·have e:Cc ⟨f,r,o,s,0⟩ k=⟨⟨f,r,o,Ez s k,0⟩,Cm.zero,1⟩:=by unfold Cc;rw[if_neg hn,if_neg (by simp)];simp[hz,ho]
   rw[e];exact bW h32 h127 hk ho hz w h
 ·have e:Cc ⟨f,r,o,s,0⟩ k=⟨⟨f,r,o,s,k⟩,Cm.zero,1⟩:=by unfold Cc;rw[if_neg hn,if_neg (by simp)];simp[hz]
  rw[e];exact dP h32 h127 hz w h
 ·by_cases ho:o=0
  ·subst ho
   have e:Cc ⟨f,r,0,s,0⟩ k=⟨⟨f,r,k,s,0⟩,Cm.zero,1⟩:=by unfold Cc;rw[if_neg hn,if_neg (by simp)];simp[hz]
   rw[e];exact jM h32 h127 hz w h
  ·by_cases hok:o=k
   ·have e:Cc ⟨f,r,o,s,0⟩ k=⟨Pt.zero,Nm ⟨f,r,o,s,0⟩ k 0,2⟩:=by unfold Cc;rw[if_neg hn,if_neg (by simp)];rw[if_neg (by rw[hz];decide),if_neg (by rw[hz];decide),if_pos hz,if_neg ho,if_neg (fun hh=>hh hok)]
    rw[e];exact dQ h32 h127 ho hok hz w h
   ·have e:Cc ⟨f,r,o,s,0⟩ k=E0:=by unfold Cc;rw[if_neg hn,if_neg (by simp)];rw[if_neg (by rw[hz];decide),if_neg (by rw[hz];decide),if_pos hz,if_neg ho,if_pos hok]
    rw[e];exact dS h32 h127 ho hok hz w h
 ·have e:Cc ⟨f,r,o,s,0⟩ k=⟨⟨f,r,o,s,k⟩,Cm.zero,1⟩:=by unfold Cc;rw[if_neg hn,if_neg (by simp)];simp[hz]
  rw[e];exact dO h32 h127 hz w h
 ·have e:Cc ⟨f,r,o,s,0⟩ k=⟨Pt.zero,Nm ⟨f,r,o,s,0⟩ k 0,2⟩:=by unfold Cc;rw[if_neg hn,if_neg (by simp)];simp[hz]
  rw[e];exact jQ h32 h127 hz w h
 ·have e:Cc ⟨f,r,o,s,0⟩ k=⟨Pt.zero,Nm ⟨f,r,o,s,0⟩ k 0,2⟩:=by unfold Cc;rw[if_neg hn,if_neg (by simp)];simp[hz]
  rw[e];exact jP h32 h127 hz w h
 ·have e:Cc ⟨f,r,o,s,0⟩ k=⟨⟨f,r,o,s,k⟩,Cm.zero,1⟩:=by unfold Cc;rw[if_neg hn,if_neg (by simp)];simp[hz]
  rw[e];exact dN h32 h127 hz w h
 ·have e:Cc ⟨f,r,o,s,0⟩ k=⟨⟨f,r,o,s,k⟩,Cm.zero,1⟩:=by unfold Cc;rw[if_neg hn,if_neg (by simp)];simp[hz]
  rw[e];exact dM h32 h127 hz w h
theorem qS (w:World)(h:Ey p=true):Calls Tryz.prog 65 #[Ji p,.int .i64 k] w fun e w'=>e=.returned (T6 (Cc p k))∧An w w':=Tg w h
structure Al where
 out:List Cm
 p:Pt
 wrong:Nat
def Ft (a:Al)(k:Int):Al:=
 ⟨if(Cc a.p k).how=2 then a.out++[(Cc a.p k).c]else a.out,(Cc a.p k).p,if(Cc a.p k).how=3 then a.wrong+1 else a.wrong⟩
def F8 (a:Al)(l:List Int):Al:=l.foldl Ft a
def Hs (l:List Int):Al:=F8 ⟨[],Pt.zero,0⟩ l
theorem Xz (a:Al)(l m:List Int):F8 a (l++m)=F8 (F8 a l) m:=by unfold F8;rw[List.foldl_append]
theorem nB {l:List Int}{j:Nat}(h:j<l.length):Hs (l.take (j+1))=Ft (Hs (l.take j)) (gI l j):=by
 unfold Hs;rw[List.take_succ_eq_append_getElem h,Xz];simp[F8,gI,List.getElem?_eq_getElem h]
theorem iJ:∀(l:List Int) (a:Al),Ey a.p=true→Ey (F8 a l).p=true∧(F8 a l).out.length+(F8 a l).wrong≤a.out.length+a.wrong+l.length∧a.wrong≤(F8 a l).wrong∧∃m,(F8 a l).out=a.out++m
 |[],a,h=>⟨h,by simp[F8],Aj _,[],by simp[F8]⟩
 |k::l,a,h=>by
  have h1:=(L6 (k:=k) h).1;obtain⟨k1,k2,k3,m,k4⟩:=iJ l (Ft a k) h1;have e:F8 a (k::l)=F8 (Ft a k) l:=rfl;rw[e];refine⟨k1,?_,?_,?_⟩
  ·have:(Ft a k).out.length+(Ft a k).wrong≤a.out.length+a.wrong+1:=by
    unfold Ft;simp only;split
    ·rename_i h2;rw[if_neg (by omega)];simp;omega
    ·split<;>omega
   simp only[List.length_cons];omega
  ·have:a.wrong≤(Ft a k).wrong:=by
    unfold Ft;simp only;split<;>omega
   omega
  ·rw[k4]
   unfold Ft;simp only;split
   ·exact⟨[(Cc a.p k).c]++m,by simp⟩
   ·exact⟨m,rfl⟩
theorem xC (l:List Int):Ey (Hs l).p=true∧(Hs l).out.length+(Hs l).wrong≤l.length:=by
 obtain⟨h1,h2,_⟩:=iJ l ⟨[],Pt.zero,0⟩ Hm;exact⟨h1,by unfold Hs;simpa using h2⟩
def nE (c:Cm):List Value:=[.int .i64 c.count,.int .i64 c.reg,.int .i64 c.op,.int .i64 c.verb,.int .i64 c.arg]
def Lv (l:List Cm):List Value:=l.flatMap nE
theorem kG (l:List Cm)(c:Cm):Lv (l++[c])=Lv l++nE c:=by simp[Lv]
theorem rA:(Tryz.prog.info? 62).map (fun i=>(i.zero,i.size,i.bytes))=some (some (.agg #[.int .i64 0,.int .i64 0,.int .i64 0,.int .i64 0,.int .i64 0]),5,40):=by kernel_rfl
def tU (w:World)(g:Nat)(p:Pt):Prop:=Aq w g 34 #[.int .i64 p.first,.int .i64 p.reg,.int .i64 p.op,.int .i64 p.second,.int .i64 p.wait]
theorem vN {l:List Int}(hl:Bl w A n c l)(hn:n≤4194304):
 Calls Tryz.prog 43 #[.slice A n c] w fun e w'=>∃O q d,e=.returned (.tuple #[.slice O q d,Ji (Hs l).p,.int .i64 (Hs l).wrong])∧Rd w' 5 O q d (Lv (Hs l).out)∧An w w':=by
 obtain⟨i0,hi,hz0,hz1,hz2⟩:=info_parts rA;have hlen:=A6 hl.len;have hb3:=(Aq.new w 34 #[.int .i64 0,.int .i64 0,.int .i64 0,.int .i64 0,.int .i64 0]).ext (An.alloc _ (.cells #[.int .i64 0,.int .i64 0,.int .i64 0,.int .i64 0,.int .i64 0] 34));have hb6:=Aq.new (w.alloc (.cells #[.int .i64 0,.int .i64 0,.int .i64 0,.int .i64 0,.int .i64 0] 34)) 34 #[.int .i64 0,.int .i64 0,.int .i64 0,.int .i64 0,.int .i64 0];rw[show(w.alloc (.cells #[.int .i64 0,.int .i64 0,.int .i64 0,.int .i64 0,.int .i64 0] 34)).heap.size=w.heap.size+1 by simp]at hb6
 have hx:=(An.alloc w (.cells #[.int .i64 0,.int .i64 0,.int .i64 0,.int .i64 0,.int .i64 0] 34)).to_alloc (.cells #[.int .i64 0,.int .i64 0,.int .i64 0,.int .i64 0,.int .i64 0] 34);have e0:Hs (l.take 0)=⟨[],Pt.zero,0⟩:=by simp[Hs,F8]
 have HI:=A6 hi;clear hi;go_enter Tryz.func43,Tryz.ntmps43
 go_wp2_with fail
 go_loopw [5,7,16] (fun v z iv wr=>∃(j q d:Nat) (O:Option Addr),j≤n∧v=.slice O q d∧z=.int .i64 (Hs (l.take j)).wrong∧iv=.int .i64 j∧Bd wr (w.heap.size+2) 62 5 O q d (Lv (Hs (l.take j)).out)∧
  Hid (tU wr w.heap.size Pt.zero)∧Hid (tU wr (w.heap.size+1) (Hs (l.take j)).p)∧An w wr) (fun _ _ iv _=>n-(intOf iv).toNat)
 case atStart=>exact⟨0,0,0,none,by omega,rfl,by rw[e0];rfl,rfl,by rw[e0];exact Bd.nil _ _ _ _,A6 hb3,A6 (by rw[e0];exact hb6),hx⟩
 case round=>
  clear hb3 hb6 hx e0;obtain⟨j,q,d,O,hj,rfl,rfl,rfl,hown,H3,H6,he⟩:=hrel;by_cases hlt:j<n
  ·obtain⟨ad,rfl,hc⟩:=hl.at_ hlt
   have d1:=he.cell (hc j hlt);have hjl:j<l.length:=by rw[hlen.out];exact hlt
   have hsn:=nB hjl;have hok:=xC (l.take j);have hlo:=hok.2;rw[List.length_take]at hlo;have HT:=A6 (Tg (k:=gI l j) wr hok.1);have Hsn:Hid (Hs (l.take (j+1))=Ft (Hs (l.take j)) (gI l j)):=A6 hsn;have hql:5*(Hs (l.take j)).out.length=q*5:=by
    have h1:=(Bd.rd hown).len;have h2:∀m:List Cm,(Lv m).length=5*m.length:=fun m=>by
     induction m with
     |nil=>rfl
     |cons x m ih=>
      have:Lv (x::m)=nE x++Lv m:=rfl;rw[this,List.length_append,ih];simp[nE];omega
    rw[h2]at h1;exact h1
   have hq:q≤4194304:=by omega
   have hwr0:(Hs (l.take j)).wrong≤4194304:=by omega
   unfold tU at H6;unfold Ji T6 Ji tC at HT;rcases hA:Hs (l.take j)with⟨out,p0,wrong⟩;rw[hA]at hown H6 HT Hsn hql hwr0;simp only at hown H6 HT hql hwr0;obtain⟨f0,f1,f2,f3,f4⟩:=p0;rcases ht:Cc ⟨f0,f1,f2,f3,f4⟩ (gI l j)with⟨tp,tc,th⟩;unfold Ft at Hsn;simp only at Hsn;rw[ht]at HT Hsn;obtain⟨p0,p1,p2,p3,p4⟩:=tp;obtain⟨u0,u1,u2,u3,u4⟩:=tc;simp only at HT Hsn H6;obtain⟨⟨c0,c1,c2,c3,c4⟩,⟨g0,g1,g2,g3,g4⟩⟩:=H6.out.five;clear hsn hok hlo hA ht hql hc;go_wp2_with fail
   refine HT.out.mono ?_
   rintro e w2 ⟨rfl,he2⟩;have HD6:=A6 (H6.out.ext he2);have HD3:=A6 (Aq.ext H3.out he2);have hown2:=Bd.ext hown he2;have HEX:=A6 (he.trans he2);obtain⟨⟨x0,x1,x2,x3,x4⟩,⟨y0,y1,y2,y3,y4⟩⟩:=(HD6.out.ext ((An.alloc w2 (.cells #[.int .i64 p0,.int .i64 p1,.int .i64 p2,.int .i64 p3,.int .i64 p4] 34)).to_alloc (.cells #[.int .i64 u0,.int .i64 u1,.int .i64 u2,.int .i64 u3,.int .i64 u4] 62))).five;have hlt2:=HD6.out.lt;have n1:¬w.heap.size+1=w2.heap.size:=by omega
   have n2:¬w2.heap.size=w.heap.size+1:=by omega
   have n3:¬w.heap.size=w2.heap.size:=by omega
   have n4:¬w2.heap.size+1=w.heap.size:=by omega
   have n5:¬w2.heap.size=w.heap.size:=by omega
   have n6:¬w.heap.size=w2.heap.size+1:=by omega
   clear HT H6 H3 hown he he2 d1 c0 c1 c2 c3 c4 g0 g1 g2 g3 g4 hlt2
   iterate 46 (first|go_values|go_skip|go_guarded|go_step|go_upon|go_back|(simp only[Int.not_lt,Int.not_le]at *;go_simp))
   have ea:=(An.alloc w2 (.cells #[.int .i64 p0,.int .i64 p1,.int .i64 p2,.int .i64 p3,.int .i64 p4] 34)).to_alloc (.cells #[.int .i64 u0,.int .i64 u1,.int .i64 u2,.int .i64 u3,.int .i64 u4] 62);have hbC:Aq ((w2.alloc (.cells #[.int .i64 p0,.int .i64 p1,.int .i64 p2,.int .i64 p3,.int .i64 p4] 34)).alloc (.cells #[.int .i64 u0,.int .i64 u1,.int .i64 u2,.int .i64 u3,.int .i64 u4] 62)) (w2.heap.size+1) 62 #[.int .i64 u0,.int .i64 u1,.int .i64 u2,.int .i64 u3,.int .i64 u4]:=by
    have:=Aq.new (w2.alloc (.cells #[.int .i64 p0,.int .i64 p1,.int .i64 p2,.int .i64 p3,.int .i64 p4] 34)) 62 #[.int .i64 u0,.int .i64 u1,.int .i64 u2,.int .i64 u3,.int .i64 u4]
    simpa using this
   have hl6:=HD6.out.lt;have hb6:=Lu (.int .i64 p0) (.int .i64 p1) (.int .i64 p2) (.int .i64 p3) (.int .i64 p4) (HD6.out.ext ea);have hb3:=Cv (.int .i64 p0) (.int .i64 p1) (.int .i64 p2) (.int .i64 p3) (.int .i64 p4) (Aq.ext HD3.out ea) (show w.heap.size+1≠w.heap.size by omega)
   have hbc:=Cv (.int .i64 p0) (.int .i64 p1) (.int .i64 p2) (.int .i64 p3) (.int .i64 p4) hbC (show w.heap.size+1≠w2.heap.size+1 by omega)
   have hE:=Db (.int .i64 p0) (.int .i64 p1) (.int .i64 p2) (.int .i64 p3) (.int .i64 p4) (HEX.out.trans ea) (Nat.le_succ w.heap.size);have hO:=(Bd.setCell (Bd.setCell (Bd.setCell (Bd.setCell (Bd.setCell (Bd.ext hown2 ea) (p:=⟨w.heap.size+1,0,none⟩) (Br _) (.int .i64 p0)) (p:=⟨w.heap.size+1,1,none⟩) (Br _) (.int .i64 p1)) (p:=⟨w.heap.size+1,2,none⟩) (Br _) (.int .i64 p2)) (p:=⟨w.heap.size+1,3,none⟩) (Br _) (.int .i64 p3)) (p:=⟨w.heap.size+1,4,none⟩) (Br _) (.int .i64 p4));clear HD6 HD3 HEX hown2 x0 x1 x2 x3 x4 y0 y1 y2 y3 y4 n1 n2 n3 n4 n5 n6 ea hbC hl6
   revert hb6 hb3 hbc hE hO
   generalize (((((((w2.alloc (.cells #[.int .i64 p0,.int .i64 p1,.int .i64 p2,.int .i64 p3,.int .i64 p4] 34)).alloc (.cells #[.int .i64 u0,.int .i64 u1,.int .i64 u2,.int .i64 u3,.int .i64 u4] 62)).setCell ⟨w.heap.size+1,0,none⟩ (.int .i64 p0)).setCell ⟨w.heap.size+1,1,none⟩ (.int .i64 p1)).setCell ⟨w.heap.size+1,2,none⟩ (.int .i64 p2)).setCell ⟨w.heap.size+1,3,none⟩ (.int .i64 p3)).setCell ⟨w.heap.size+1,4,none⟩ (.int .i64 p4))=W;intro hb6 hb3 hbc hE hO;have Hb6:=A6 hb6;have Hb3:=A6 hb3;have HE:=A6 hE;have HO:=A6 hO;obtain⟨⟨v0,v1,v2,v3,v4⟩,_⟩:=hbc.five;have hl6:=hb6.lt;clear hb6 hb3 hbc hO;by_cases h2:th=2
   ·subst h2
    have hown:=HO.out;have hi:=HI.out;go_wp2_with (at_builtin;refine C6 rfl (.tmp 32) (.tmp 34) 71 rfl w (w.heap.size+2) 62 i0 _ 5 40 Tryz.underlying71 hi hz0 hz1 hz2 rfl (by decide) O q d _ rfl hown #[.int .i64 u0,.int .i64 u1,.int .i64 u2,.int .i64 u3,.int .i64 u4] rfl ?_ rfl ?_ ?_ hE (by omega) (by omega) ?_)
    ·exact⟨rfl,rfl,rfl,rfl,rfl⟩
    ·unfold maxLen;omega
    ·omega
    ·intro O2 d2 w5 hO2 hgr hor hx5
     have hn6:(Ak O q d).ownBlock≠some (w.heap.size+1):=fun e=>by have:=(Bd.blk HO.out _ e).1;omega
     have hn3:(Ak O q d).ownBlock≠some w.heap.size:=fun e=>by have:=(Bd.blk HO.out _ e).1;omega
     have K6:=A6 (Hb6.out.grown hgr (fun e=>hn6 e.symm))
     have K3:=A6 (Aq.grown Hb3.out hgr (fun e=>hn3 e.symm))
     have HO5:=A6 hO2;clear hO2 hgr hor hown hi hE v0 v1 v2 v3 v4 hn6 hn3 Hb6 Hb3 HE HO;go_wp2_with fail
     go_roundw
     case rel=>exact⟨j+1,q+1,d2,O2,by omega,rfl,by rw[Hsn.out];simp,by go_num,by rw[Hsn.out];simp only[if_true];rw[kG];exact HO5.out,K3,A6 (by rw[Hsn.out];exact K6.out),hx5⟩
     case measure=>simp[intOf];omega
   ·have h2b:(th==2)=false:=by simpa using h2
    by_cases h3:th=3
    ·subst h3
     clear v0 v1 v2 v3 v4;go_wp2_with fail
     go_roundw
     case rel=>exact⟨j+1,q,d,O,by omega,rfl,by rw[Hsn.out];simp only[if_true];go_num,by go_num,by rw[Hsn.out];simpa using HO.out,Hb3,A6 (by rw[Hsn.out];exact Hb6.out),HE.out⟩
     case measure=>simp[intOf];omega
    ·have h3b:(th==3)=false:=by simpa using h3
     clear v0 v1 v2 v3 v4;go_wp2_with fail
     go_roundw
     case rel=>exact⟨j+1,q,d,O,by omega,rfl,by rw[Hsn.out];simp[h3],by go_num,by rw[Hsn.out];simp only[if_neg h2];exact HO.out,Hb3,A6 (by rw[Hsn.out];exact Hb6.out),HE.out⟩
     case measure=>simp[intOf];omega
  ·obtain rfl:j=n:=by omega
   have htk:l.take j=l:=List.take_of_length_le (by rw[hlen.out];exact Aj _)
   rw[htk]at hown H6 ⊢;unfold tU at H6 H3;rcases hA:Hs l with⟨out,⟨p0,p1,p2,p3,p4⟩,wrong⟩;rw[hA]at hown H6;have HA:=A6 hA;simp only at hown H6 ⊢;obtain⟨⟨c0,c1,c2,c3,c4⟩,_⟩:=H6.out.five;obtain⟨⟨x0,x1,x2,x3,x4⟩,⟨y0,y1,y2,y3,y4⟩⟩:=H3.out.five;have hB:=Lu (.int .i64 p0) (.int .i64 p1) (.int .i64 p2) (.int .i64 p3) (.int .i64 p4) ((show Aq wr.drew w.heap.size 34 _ from H3.out))
   have hend:=Db (.int .i64 p0) (.int .i64 p1) (.int .i64 p2) (.int .i64 p3) (.int .i64 p4) he.to_drew (Aj w.heap.size);have hl3:=H3.out.lt;have hr:=A6 (Bd.rd ((Bd.setCell (Bd.setCell (Bd.setCell (Bd.setCell (Bd.setCell (Bd.ext hown (An.drew wr)) (p:=⟨w.heap.size,0,none⟩) (show w.heap.size<w.heap.size+2 by omega) (.int .i64 p0)) (p:=⟨w.heap.size,1,none⟩) (show w.heap.size<w.heap.size+2 by omega) (.int .i64 p1)) (p:=⟨w.heap.size,2,none⟩) (show w.heap.size<w.heap.size+2 by omega) (.int .i64 p2)) (p:=⟨w.heap.size,3,none⟩) (show w.heap.size<w.heap.size+2 by omega) (.int .i64 p3)) (p:=⟨w.heap.size,4,none⟩) (show w.heap.size<w.heap.size+2 by omega) (.int .i64 p4))))
   obtain⟨⟨e0,e1,e2,e3,e4⟩,_⟩:=hB.five;have m0:(wr.setCell ⟨w.heap.size,0,none⟩ (.int .i64 p0)).cell? ⟨w.heap.size,0,none⟩=some (.int .i64 p0):=by have:=(Aq.set_ H3.out 0 (.int .i64 p0)).cell 0;simpa using this
   have m1:((wr.setCell ⟨w.heap.size,0,none⟩ (.int .i64 p0)).setCell ⟨w.heap.size,1,none⟩ (.int .i64 p1)).cell? ⟨w.heap.size,1,none⟩=some (.int .i64 p1):=by have:=(Aq.set_ (Aq.set_ H3.out 0 (.int .i64 p0)) 1 (.int .i64 p1)).cell 1;simpa using this
   have m2:(((wr.setCell ⟨w.heap.size,0,none⟩ (.int .i64 p0)).setCell ⟨w.heap.size,1,none⟩ (.int .i64 p1)).setCell ⟨w.heap.size,2,none⟩ (.int .i64 p2)).cell? ⟨w.heap.size,2,none⟩=some (.int .i64 p2):=by have:=(Aq.set_ (Aq.set_ (Aq.set_ H3.out 0 (.int .i64 p0)) 1 (.int .i64 p1)) 2 (.int .i64 p2)).cell 2;simpa using this
   have m3:((((wr.setCell ⟨w.heap.size,0,none⟩ (.int .i64 p0)).setCell ⟨w.heap.size,1,none⟩ (.int .i64 p1)).setCell ⟨w.heap.size,2,none⟩ (.int .i64 p2)).setCell ⟨w.heap.size,3,none⟩ (.int .i64 p3)).cell? ⟨w.heap.size,3,none⟩=some (.int .i64 p3):=by have:=(Aq.set_ (Aq.set_ (Aq.set_ (Aq.set_ H3.out 0 (.int .i64 p0)) 1 (.int .i64 p1)) 2 (.int .i64 p2)) 3 (.int .i64 p3)).cell 3;simpa using this
   have m4:(((((wr.setCell ⟨w.heap.size,0,none⟩ (.int .i64 p0)).setCell ⟨w.heap.size,1,none⟩ (.int .i64 p1)).setCell ⟨w.heap.size,2,none⟩ (.int .i64 p2)).setCell ⟨w.heap.size,3,none⟩ (.int .i64 p3)).setCell ⟨w.heap.size,4,none⟩ (.int .i64 p4)).cell? ⟨w.heap.size,4,none⟩=some (.int .i64 p4):=by have:=(Aq.set_ (Aq.set_ (Aq.set_ (Aq.set_ (Aq.set_ H3.out 0 (.int .i64 p0)) 1 (.int .i64 p1)) 2 (.int .i64 p2)) 3 (.int .i64 p3)) 4 (.int .i64 p4)).cell 4;simpa using this
   clear hB hown hA H6 H3 he;go_wp2_with fail
   go_region_with fail
   all_goals
    go_wp2_with fail
    refine bodyPost_ret (by simp[results,Tryz.results43,go_sem,e0,e1,e2,e3,e4,m0,m1,m2,m3,m4];try rfl) rfl ?_
    exact⟨O,q,d,by rw[HA.out];rfl,by rw[HA.out];exact hr.out,hend⟩
def Tc (n:Int):List Int:=(if 100≤n then [48+n/100%10]else [])++((if 10≤n then [48+n/10%10]else [])++(if 1≤n then [48+n%10]else []))
def Zw (c:Cm):Bool:=if Gq c.verb||c.verb==114 then true else if c.verb==105||c.verb==97 then c.op !=0 else false
def cV (c:Cm):List Int:=if c.reg=0 then []else [34,c.reg]
def Zq (c:Cm):List Int:=if c.op=0 then []else [c.op]
def tS (c:Cm):List Int:=if Zw c=true then [c.arg]else []
def Nl (c:Cm):List Int:=cV c++(Tc c.count++(Zq c++([c.verb]++tS c)))
theorem aY (c:Cm):(Nl c).length≤8:=by
 unfold Nl cV Tc Zq tS;have h1:(if c.reg=0 then([]:List Int)else [34,c.reg]).length≤2:=by split<;>simp
 have h2:(if 100≤c.count then [48+c.count/100%10]else([]:List Int)).length≤1:=by split<;>simp
 have h3:(if 10≤c.count then [48+c.count/10%10]else([]:List Int)).length≤1:=by split<;>simp
 have h4:(if 1≤c.count then [48+c.count%10]else([]:List Int)).length≤1:=by split<;>simp
 have h5:(if c.op=0 then([]:List Int)else [c.op]).length≤1:=by split<;>simp
 have h6:(if Zw c=true then [c.arg]else([]:List Int)).length≤1:=by split<;>simp
 simp only[List.length_append,List.length_singleton];omega
theorem Lc (h:k<32):(Cc p k).how=3:=by unfold Cc;rw[if_pos (.inl h)];rfl
theorem tZ (hc:Ey p=true)(h:(Cc p k).how=1):(Cc p k).p≠Pt.zero:=by
 have hk:¬k<32:=fun e=>by rw[Lc e]at h;exact absurd (show(3:Int)=1 from h) (by decide)
 obtain⟨f,r,o,s,wt⟩:=p;obtain⟨h1,h2,h3,h4,h5,hr,ho2,hwt⟩:=Fy hc;intro hz;have z1:=congrArg Pt.first hz;have z2:=congrArg Pt.reg hz;have z3:=congrArg Pt.op hz;have z4:=congrArg Pt.second hz;have z5:=congrArg Pt.wait hz;clear hz hc;have hdig:Be ⟨f,r,o,s,wt⟩ k=1→(49≤k∧k≤57)∨(k=48∧0<Ub ⟨f,r,o,s,wt⟩):=fun e=>by
  by_cases hd:Hr ⟨f,r,o,s,wt⟩ k=true
  ·unfold Hr at hd
   simpa using hd
  ·exfalso
   unfold Be at e;rw[if_neg hd]at e
   (repeat' split at e)<;>exact absurd e (by decide)
 unfold Cc G4 at h z1 z2 z3 z4 z5;by_cases c1:k<32∨k=127
 ·rw[if_pos c1]at h;exact absurd (show(3:Int)=1 from h) (by decide)
 rw[if_neg c1]at h z1 z2 z3 z4 z5;by_cases c2:wt≠0
 ·rw[if_pos c2]at h z1 z2 z3 z4 z5
  by_cases c3:(wt==34)=true
  ·rw[if_pos c3]at h z1 z2 z3 z4 z5
   by_cases c4:Wp k=true
   ·rw[if_pos c4]at z2
    have z2:k=0:=z2;omega
   ·rw[if_neg c4]at h;exact absurd (show(3:Int)=1 from h) (by decide)
  ·rw[if_neg c3]at h
   (repeat' split at h)<;>(first|exact absurd (show(2:Int)=1 from h) (by decide)|exact absurd (show(3:Int)=1 from h) (by decide))
 rw[if_neg c2]at h z1 z2 z3 z4 z5;by_cases c3:Be ⟨f,r,o,s,wt⟩ k=1
 ·rw[if_pos c3]at z1 z4
  have hd:=hdig c3;unfold Ub at hd;by_cases c4:o≠0
  ·rw[if_pos c4]at z4
   have z4:Ez s k=0:=z4;unfold Ez at z4;have:(o==0)=false:=by simpa using c4
   simp only[this,Bool.false_eq_true,if_false]at hd;omega
  ·rw[if_neg c4]at z1
   have z1:Ez f k=0:=z1;unfold Ez at z1;have:(o==0)=true:=by simpa using c4
   simp only[this,if_true]at hd;omega
 rw[if_neg c3]at h z1 z2 z3 z4 z5;by_cases c4:Be ⟨f,r,o,s,wt⟩ k=2∨Be ⟨f,r,o,s,wt⟩ k=4∨Be ⟨f,r,o,s,wt⟩ k=7∨Be ⟨f,r,o,s,wt⟩ k=8
 ·rw[if_pos c4]at z5
  have z5:k=0:=z5;omega
 rw[if_neg c4]at h z3;by_cases c5:Be ⟨f,r,o,s,wt⟩ k=3
 ·rw[if_pos c5]at h z3
  by_cases c6:o=0
  ·rw[if_pos c6]at z3
   have z3:k=0:=z3;omega
  ·rw[if_neg c6]at h
   (repeat' split at h)<;>(first|exact absurd (show(2:Int)=1 from h) (by decide)|exact absurd (show(3:Int)=1 from h) (by decide))
 rw[if_neg c5]at h
 (repeat' split at h)<;>(first|exact absurd (show(2:Int)=1 from h) (by decide)|exact absurd (show(3:Int)=1 from h) (by decide))
theorem aQ (l:List Cm):(Lv l).length=5*l.length:=by
 induction l with
 |nil=>rfl
 |cons x l ih=>
  have:Lv (x::l)=nE x++Lv l:=rfl;rw[this,List.length_append,ih];simp[nE];omega
theorem hU:∀(l:List Cm) (k:Nat) (h:k<l.length) (i:Nat),i<5→(Lv l)[k*5+i]? = (nE l[k])[i]?
 |[],k,h,_,_=>by simp at h
 |x::l,0,h,i,hi=>by
  have:Lv (x::l)=nE x++Lv l:=rfl;rw[this,List.getElem?_append_left (by simp[nE];omega)]
  simp
 |x::l,k+1,h,i,hi=>by
  have:Lv (x::l)=nE x++Lv l:=rfl;have e:(nE x).length=5:=rfl;rw[this,List.getElem?_append_right (by rw[e];omega),e,show(k+1)*5+i-5=k*5+i by omega,hU l k (by simpa using h) i hi]
  simp
def yB (w:World)(A:Option Addr)(n c:Nat)(l:List Cm):Prop:=Rd w 5 A n c (Lv l)
theorem yB.len {l:List Cm}(h:yB w A n c l):l.length=n:=by
 have h1:=Rd.len h;rw[aQ]at h1;omega
theorem yB.at_ {l:List Cm}(h:yB w A n c l){k:Nat}(hk:k<n):∃ad x,A=some ad∧l[k]? = some x∧
 w.cell? (ad.add (k*5))=some (.int .i64 x.count)∧w.cell? ⟨(ad.add (k*5)).block,(ad.add (k*5)).off+1,none⟩=some (.int .i64 x.reg)∧w.cell? ⟨(ad.add (k*5)).block,(ad.add (k*5)).off+2,none⟩=some (.int .i64 x.op)∧w.cell? ⟨(ad.add (k*5)).block,(ad.add (k*5)).off+3,none⟩=some (.int .i64 x.verb)∧w.cell? ⟨(ad.add (k*5)).block,(ad.add (k*5)).off+4,none⟩=some (.int .i64 x.arg):=by
 obtain⟨ad,e,hc⟩:=Rd.at_ h hk;have hl:=yB.len h;have hkl:k<l.length:=by omega
 have f:=fun i hi=>hU l k hkl i hi
 refine⟨ad,l[k],e,List.getElem?_eq_getElem hkl,hc _ _ (by have:=f 0 (by omega);simpa[nE]using this),?_,?_,?_,?_⟩
 ·have:=hc _ _ (show(Lv l)[k*5+1]? = some _ by rw[f 1 (by omega)];rfl)
  rw[←Fr]at this;exact this
 ·have:=hc _ _ (show(Lv l)[k*5+2]? = some _ by rw[f 2 (by omega)];rfl)
  rw[←Fr]at this;exact this
 ·have:=hc _ _ (show(Lv l)[k*5+3]? = some _ by rw[f 3 (by omega)];rfl)
  rw[←Fr]at this;exact this
 ·have:=hc _ _ (show(Lv l)[k*5+4]? = some _ by rw[f 4 (by omega)];rfl)
  rw[←Fr]at this;exact this
end
