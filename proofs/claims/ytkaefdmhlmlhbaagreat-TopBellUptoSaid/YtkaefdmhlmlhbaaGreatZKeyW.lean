/-
  Part of the proof: ZKeyW.
-/
import Derived.Test.YtkaefdmhlmlhbaaGreatZBase
import Derived.IntWalk
import Derived.Laws.StructEq
import Derived.Deep.RegionHeld3
import Derived.Deep.RegionWith
set_option maxRecDepth 100000
set_option maxHeartbeats 16000000
set_option linter.unusedVariables false
set_option linter.unusedSimpArgs false
namespace Go.Proofs.YtkaefdmhlmlhbaaGreat
open Go.RowKit
def Jl (p:Pt):Value:=.agg #[.int .i64 p.first,.int .i64 p.reg,.int .i64 p.op,.int .i64 p.second,.int .i64 p.wait]
def cmV (c:Cm):Value:=.agg #[.int .i64 c.count,.int .i64 c.reg,.int .i64 c.op,.int .i64 c.verb,.int .i64 c.arg]
theorem P8 (c:Int)(w:World):Calls Tryz.prog 135 #[.int .i64 c] w fun e w'=>e=.returned (.bool (Xt c))∧w=w':=by
 obtain⟨z,hz⟩:∃z,Xt c=z:=⟨_,rfl⟩;rw[hz];have HZ:=A6 hz;clear hz;go_enter Tryz.func135,Tryz.ntmps135
 go_wp2_with fail
 all_goals go_ret
 all_goals refine⟨G7 ?_,rfl⟩
 all_goals (rw[←HZ.out,Bool.eq_iff_iff];unfold Xt;simp;try omega)
theorem La (c:Int)(w:World):Calls Tryz.prog 136 #[.int .i64 c] w fun e w'=>e=.returned (.bool (Gq c))∧w=w':=by
 obtain⟨z,hz⟩:∃z,Gq c=z:=⟨_,rfl⟩;rw[hz];have HZ:=A6 hz;clear hz;go_enter Tryz.func136,Tryz.ntmps136
 go_wp2_with fail
 all_goals go_ret
 all_goals refine⟨G7 ?_,rfl⟩
 all_goals (rw[←HZ.out];unfold Gq;simp_all)
theorem V7 (n k:Int)(w:World)(hn:0≤n∧n≤999)(hk:0≤k∧k≤255):Calls Tryz.prog 89 #[.int .i64 n,.int .i64 k] w fun e w'=>e=.returned (.int .i64 (Fs n k))∧w=w':=by
 obtain⟨h1,h2⟩:=hn;obtain⟨h3,h4⟩:=hk;go_enter Tryz.func89,Tryz.ntmps89
 go_wp2_with fail
 all_goals go_ret
 all_goals exact⟨J0 (by unfold Fs;omega),rfl⟩
theorem Q1i (p:Pt)(w:World)(hf:0≤p.first∧p.first≤999)(hs:0≤p.second∧p.second≤999):Calls Tryz.prog 137 #[Jl p] w fun e w'=>e=.returned (.int .i64 (Xr p))∧Am w w':=by
 obtain⟨f,r,o,s,wt⟩:=p;obtain⟨h1,h2⟩:=hf;obtain⟨h3,h4⟩:=hs;have hx:=Am.alloc w (.cells #[.int .i64 f,.int .i64 r,.int .i64 o,.int .i64 s,.int .i64 wt] 34);obtain⟨z,hz⟩:∃z,Xr ⟨f,r,o,s,wt⟩=z:=⟨_,rfl⟩;rw[hz];have HZ:=A6 hz;have hm:IntKind.i64.wrap (f*s)=f*s:=by
  have a1:0≤f*s:=Int.mul_nonneg h1 h3;have a2:f*s≤999*999:=Int.mul_le_mul h2 h4 h3 (by decide)
  rw[IntWalk.i64_in _ (by omega)]
 clear hz;unfold Jl;go_enter Tryz.func137,Tryz.ntmps137
 go_wp2_with fail
 all_goals go_ret
 all_goals refine⟨J0 ?_,hx⟩
 all_goals (rw[←HZ.out];unfold Xr;simp_all)
 all_goals (clear hm;generalize f*s=m at *;omega)
theorem M4 {w:World}{g t:Nat}{a0 a1 a2 a3 a4:Value}(b0 b1 b2 b3 b4:Value)(h:Ap w g t #[a0,a1,a2,a3,a4]):Ap (((((w.setCell ⟨g,0,none⟩ b0).setCell ⟨g,1,none⟩ b1).setCell ⟨g,2,none⟩ b2).setCell ⟨g,3,none⟩ b3).setCell ⟨g,4,none⟩ b4) g t #[b0,b1,b2,b3,b4]:=by
 simpa using((((h.set_ 0 b0).set_ 1 b1).set_ 2 b2).set_ 3 b3).set_ 4 b4
theorem Ap.setNq {w:World}{g t:Nat}{cs:Array Value}(h:Ap w g t cs){p:Addr}(hp:p.block≠g)(u:Value):Ap (w.setCell p u) g t cs:=
 (Below.heap_setCell w p u g (fun e=>hp e.symm)).trans h
theorem Cv {w:World}{g g' t:Nat}{cs:Array Value}(b0 b1 b2 b3 b4:Value)(h:Ap w g' t cs)(hne:g≠g'):Ap (((((w.setCell ⟨g,0,none⟩ b0).setCell ⟨g,1,none⟩ b1).setCell ⟨g,2,none⟩ b2).setCell ⟨g,3,none⟩ b3).setCell ⟨g,4,none⟩ b4) g' t cs:=
 ((((h.setNq (p:=⟨g,0,none⟩) hne b0).setNq (p:=⟨g,1,none⟩) hne b1).setNq (p:=⟨g,2,none⟩) hne b2).setNq (p:=⟨g,3,none⟩) hne b3).setNq (p:=⟨g,4,none⟩) hne b4
theorem Dh {w0 w:World}{g:Nat}(b0 b1 b2 b3 b4:Value)(h:Am w0 w)(hg:w0.heap.size≤g):Am w0 (((((w.setCell ⟨g,0,none⟩ b0).setCell ⟨g,1,none⟩ b1).setCell ⟨g,2,none⟩ b2).setCell ⟨g,3,none⟩ b3).setCell ⟨g,4,none⟩ b4):=
 ((((h.setCell (p:=⟨g,0,none⟩) hg b0).setCell (p:=⟨g,1,none⟩) hg b1).setCell (p:=⟨g,2,none⟩) hg b2).setCell (p:=⟨g,3,none⟩) hg b3).setCell (p:=⟨g,4,none⟩) hg b4
def Z2f (w:World)(g:Nat)(a0 a1 a2 a3 a4:Value):Prop:=
 (w.cell? ⟨g,0,none⟩=some a0∧w.cell? ⟨g,1,none⟩=some a1∧w.cell? ⟨g,2,none⟩=some a2∧w.cell? ⟨g,3,none⟩=some a3∧w.cell? ⟨g,4,none⟩=some a4)∧
 (w.frozen? ⟨g,0,none⟩=false∧w.frozen? ⟨g,1,none⟩=false∧w.frozen? ⟨g,2,none⟩=false∧w.frozen? ⟨g,3,none⟩=false∧w.frozen? ⟨g,4,none⟩=false)
theorem Ap.five {w:World}{g t:Nat}{a0 a1 a2 a3 a4:Value}(h:Ap w g t #[a0,a1,a2,a3,a4]):Z2f w g a0 a1 a2 a3 a4:=
 ⟨⟨h.cell 0,h.cell 1,h.cell 2,h.cell 3,h.cell 4⟩,⟨h.frozen 0,h.frozen 1,h.frozen 2,h.frozen 3,h.frozen 4⟩⟩
theorem Kv (p:Pt)(v a:Int)(w:World)(hf:0≤p.first∧p.first≤999)(hs:0≤p.second∧p.second≤999):
 Calls Tryz.prog 90 #[Jl p,.int .i64 v,.int .i64 a] w fun e w'=>e=.returned (cmV (Mv p v a))∧Am w w':=by
 have HT:Hid (∀wq:World,Calls Tryz.prog 137 #[Jl p] wq fun e w'=>e=.returned (.int .i64 (Xr p))∧Am wq w'):=A6 fun wq=>Q1i p wq hf hs
 clear hf hs;obtain⟨z,hz⟩:∃z,Xr p=z:=⟨_,rfl⟩;rw[hz]at HT;unfold Mv;rw[hz];clear hz;obtain⟨f,r,o,s,wt⟩:=p;unfold Jl at*;unfold cmV;simp only at*;have hb0:=(Ap.new w 34 #[.int .i64 f,.int .i64 r,.int .i64 o,.int .i64 s,.int .i64 wt]).ext (Am.alloc _ (.cells #[.int .i64 0,.int .i64 0,.int .i64 0,.int .i64 0,.int .i64 0] 62));have hb1:=Ap.new (w.alloc (.cells #[.int .i64 f,.int .i64 r,.int .i64 o,.int .i64 s,.int .i64 wt] 34)) 62 #[.int .i64 0,.int .i64 0,.int .i64 0,.int .i64 0,.int .i64 0];rw[show(w.alloc (.cells #[.int .i64 f,.int .i64 r,.int .i64 o,.int .i64 s,.int .i64 wt] 34)).heap.size=w.heap.size+1 by simp]at hb1
 have hx:=(Am.alloc w (.cells #[.int .i64 f,.int .i64 r,.int .i64 o,.int .i64 s,.int .i64 wt] 34)).to_alloc (.cells #[.int .i64 0,.int .i64 0,.int .i64 0,.int .i64 0,.int .i64 0] 62);go_enter Tryz.func90,Tryz.ntmps90
 go_wp2_with fail
 revert hb0 hb1 hx
 generalize (w.alloc (.cells #[.int .i64 f,.int .i64 r,.int .i64 o,.int .i64 s,.int .i64 wt] 34)).alloc (.cells #[.int .i64 0,.int .i64 0,.int .i64 0,.int .i64 0,.int .i64 0] 62)=W0;intro hb0 hb1 hx;have k0:=hb0.cell 0;have k1:=hb0.cell 1;have k2:=hb0.cell 2;have k3:=hb0.cell 3;have k4:=hb0.cell 4;simp only[List.getElem?_toArray,List.getElem?_cons_zero,List.getElem?_cons_succ]at k0 k1 k2 k3 k4;have hxd:=Am.drew W0;have HW:Hid (∀w2,Am W0 w2→Z2f w2 w.heap.size (.int .i64 f) (.int .i64 r) (.int .i64 o) (.int .i64 s) (.int .i64 wt)):=A6 fun w2 he=>(hb0.ext he).five
 have HY:Hid (∀w2,Am W0 w2→Ap w2 (w.heap.size+1) 62 #[.int .i64 0,.int .i64 0,.int .i64 0,.int .i64 0,.int .i64 0]):=A6 fun w2 he=>hb1.ext he
 have HX:Hid (∀w2,Am W0 w2→Am w w2):=A6 fun w2 he=>hx.trans he
 clear hb0 hb1 hx;go_region_with (first
  |(
   go_at_call 137
   refine(HT.out _).mono ?_
   rintro e w2 ⟨rfl,he2⟩;have hf2:=hxd.trans he2;obtain⟨⟨j0,j1,j2,j3,j4⟩,_⟩:=HW.out w2 hf2;obtain⟨⟨c0,c1,c2,c3,c4⟩,⟨f0,f1,f2,f3,f4⟩⟩:=(HY.out w2 hf2).five))
 all_goals
  have hB:=M4 (.int .i64 z) (.int .i64 r) (.int .i64 o) (.int .i64 v) (.int .i64 a) (HY.out w2 hf2);have hend:=Dh (.int .i64 z) (.int .i64 r) (.int .i64 o) (.int .i64 v) (.int .i64 a) (HX.out w2 hf2) (Nat.le_succ w.heap.size);obtain⟨⟨e0,e1,e2,e3,e4⟩,_⟩:=hB.five;clear c0 c1 c2 c3 c4 f0 f1 f2 f3 f4 j0 j1 j2 j3 j4 k0 k1 k2 k3 k4 hB;go_wp2_with fail
  refine bodyPost_ret (by simp[results,Tryz.results90,go_sem,e0,e1,e2,e3,e4];try rfl) rfl ?_
  exact⟨rfl,hend⟩
def Mp (p:Pt)(k:Int):Prop:=∀w:World,Calls Tryz.prog 88 #[Jl p,.int .i64 k] w fun e w'=>e=.returned (.int .i64 (Be p k))∧Am w w'
theorem Kx {f r o s wt k z:Int}{b:Bool}(hz:Be ⟨f,r,o,s,wt⟩ k=z)(hop:Gq k=b)(h:∀w,Am w (w.alloc (.cells #[.int .i64 f,.int .i64 r,.int .i64 o,.int .i64 s,.int .i64 wt] 34))→Hid (∀w:World,Calls Tryz.prog 136 #[.int .i64 k] w fun e w'=>e=.returned (.bool b)∧w=w')→Calls Tryz.prog 88 #[.agg #[.int .i64 f,.int .i64 r,.int .i64 o,.int .i64 s,.int .i64 wt],.int .i64 k] w fun e w'=>e=.returned (.int .i64 z)∧Am w w':=by(intro w hx HO;go_enter Tryz.func88,Tryz.ntmps88;go_wp2_with (go_at_call 136;refine(HO.out _).mono ?_;rintro e w' ⟨rfl,rfl⟩);go_ret;exact⟨rfl,hx⟩)):Mp ⟨f,r,o,s,wt⟩ k:=by
 intro w;rw[hz];unfold Jl;refine h w (Am.alloc w _) (A6 ?_);rw[←hop];exact La k
theorem Z1e (p:Pt)(k:Int)(hk:k=100∨k=99∨k=121):Mp p k:=by
 obtain⟨f,r,o,s,wt⟩:=p;by_cases ho:o=0
 ·subst ho
  rcases hk with rfl|rfl|rfl<;>exact Kx (z:=3) (b:=true) (by simp[Be,Hu,Gq,Kj,Hj,Ff]) rfl
 ·have hob:(o==0)=false:=by simpa using ho
  rcases hk with rfl|rfl|rfl<;>exact Kx (z:=3) (b:=true) (by simp[Be,Hu,Gq,Kj,Hj,Ff,ho]) rfl
theorem Z1d (p:Pt)(k:Int)(hk:k=104∨k=108∨k=94∨k=36∨k=124∨k=119∨k=87∨k=98∨k=66∨k=101∨k=69∨k=37∨k=59∨k=44):Mp p k:=by
 obtain⟨f,r,o,s,wt⟩:=p;by_cases ho:o=0
 ·subst ho
  rcases hk with rfl|rfl|rfl|rfl|rfl|rfl|rfl|rfl|rfl|rfl|rfl|rfl|rfl|rfl<;>exact Kx (z:=5) (b:=false) (by simp[Be,Hu,Gq,Kj,Hj,Ff]) rfl
 ·have hob:(o==0)=false:=by simpa using ho
  rcases hk with rfl|rfl|rfl|rfl|rfl|rfl|rfl|rfl|rfl|rfl|rfl|rfl|rfl|rfl<;>exact Kx (z:=5) (b:=false) (by simp[Be,Hu,Gq,Kj,Hj,Ff,ho]) rfl
theorem Z1c (p:Pt)(k:Int)(hk:k=102∨k=70∨k=116∨k=84):Mp p k:=by
 obtain⟨f,r,o,s,wt⟩:=p;by_cases ho:o=0
 ·subst ho
  rcases hk with rfl|rfl|rfl|rfl<;>exact Kx (z:=4) (b:=false) (by simp[Be,Hu,Gq,Kj,Hj,Ff]) rfl
 ·have hob:(o==0)=false:=by simpa using ho
  rcases hk with rfl|rfl|rfl|rfl<;>exact Kx (z:=4) (b:=false) (by simp[Be,Hu,Gq,Kj,Hj,Ff,ho]) rfl
theorem Z1b (p:Pt)(k:Int)(hk:k=105∨k=97):Mp p k:=by
 obtain⟨f,r,o,s,wt⟩:=p;by_cases ho:o=0
 ·subst ho
  rcases hk with rfl|rfl<;>exact Kx (z:=6) (b:=false) (by simp[Be,Hu,Gq,Kj,Hj,Ff]) rfl
 ·have hob:(o==0)=false:=by simpa using ho
  rcases hk with rfl|rfl<;>exact Kx (z:=8) (b:=false) (by simp[Be,Hu,Gq,Kj,Hj,Ff,ho]) rfl
theorem Z1a (p:Pt)(k:Int)(hk:k=73∨k=65∨k=115∨k=83∨k=67∨k=68∨k=120∨k=88∨k=112∨k=80∨k=89∨k=126∨k=117∨k=85∨k=46∨k=106∨k=107∨k=71∨k=47∨k=63∨k=110∨k=78∨k=82):Mp p k:=by
 obtain⟨f,r,o,s,wt⟩:=p;by_cases ho:o=0
 ·subst ho
  rcases hk with rfl|rfl|rfl|rfl|rfl|rfl|rfl|rfl|rfl|rfl|rfl|rfl|rfl|rfl|rfl|rfl|rfl|rfl|rfl|rfl|rfl|rfl|rfl<;>exact Kx (z:=6) (b:=false) (by simp[Be,Hu,Gq,Kj,Hj,Ff]) rfl
 ·have hob:(o==0)=false:=by simpa using ho
  rcases hk with rfl|rfl|rfl|rfl|rfl|rfl|rfl|rfl|rfl|rfl|rfl|rfl|rfl|rfl|rfl|rfl|rfl|rfl|rfl|rfl|rfl|rfl|rfl<;>exact Kx (z:=0) (b:=false) (by simp[Be,Hu,Gq,Kj,Hj,Ff,ho]) rfl
theorem Z0z (p:Pt)(k:Int)(hk:k=114):Mp p k:=by
 obtain⟨f,r,o,s,wt⟩:=p;by_cases ho:o=0
 ·subst ho
  subst hk<;>exact Kx (z:=7) (b:=false) (by simp[Be,Hu,Gq,Kj,Hj,Ff]) rfl
 ·have hob:(o==0)=false:=by simpa using ho
  subst hk<;>exact Kx (z:=0) (b:=false) (by simp[Be,Hu,Gq,Kj,Hj,Ff,ho]) rfl
theorem Q6w (p:Pt)(k:Int)(hk:k=34):Mp p k:=by
 obtain⟨f,r,o,s,wt⟩:=p;subst hk;by_cases ho:o=0
 ·subst ho
  by_cases hr:r=0
  ·subst hr
   exact Kx (z:=2) (b:=false) (by simp[Be,Hu,Gq,Kj,Hj,Ff]) rfl
  ·have hrb:(r==0)=false:=by simpa using hr
   exact Kx (z:=0) (b:=false) (by simp[Be,Hu,Gq,Kj,Hj,Ff,hr]) rfl
 ·have hob:(o==0)=false:=by simpa using ho
  exact Kx (z:=0) (b:=false) (by simp[Be,Hu,Gq,Kj,Hj,Ff,ho]) rfl
theorem Q6v (p:Pt)(k:Int)(hk:k=48):Mp p k:=by
 obtain⟨f,r,o,s,wt⟩:=p;subst hk;by_cases ho:o=0
 ·subst ho
  by_cases hf:0<f
  ·exact Kx (z:=1) (b:=false) (by simp[Be,Hu,Xv,Gq,Kj,hf]) rfl
  ·exact Kx (z:=5) (b:=false) (by simp[Be,Hu,Xv,Gq,Kj,hf]) rfl
 ·have hob:(o==0)=false:=by simpa using ho
  by_cases hf:0<s
  ·exact Kx (z:=1) (b:=false) (by simp[Be,Hu,Xv,Gq,Kj,hf,ho]) rfl
  ·exact Kx (z:=5) (b:=false) (by simp[Be,Hu,Xv,Gq,Kj,hf,ho]) rfl
theorem Q3g (p:Pt)(k:Int)(h1:49≤k)(h2:k≤57):Mp p k:=by
 obtain⟨f,r,o,s,wt⟩:=p;have hop:Gq k=false:=by simp[Gq];omega
 by_cases ho:o=0
 ·subst ho
  exact I111
 ·have hob:(o==0)=false:=by simpa using ho
  exact I111
theorem J8e (p:Pt)(k:Int)(hn:¬(k=100∨k=99∨k=121∨k=104∨k=108∨k=94∨k=36∨k=124∨k=119∨k=87∨k=98∨k=66∨k=101∨k=69∨k=37∨k=59∨k=44∨k=102∨k=70∨k=116∨k=84∨k=105∨k=97∨k=73∨k=65∨k=115∨k=83∨k=67∨k=68∨k=120∨k=88∨k=112∨k=80∨k=89∨k=126∨k=117∨k=85∨k=46∨k=106∨k=107∨k=71∨k=47∨k=63∨k=110∨k=78∨k=82∨k=114∨k=34∨k=48))(hd:¬(49≤k∧k≤57)):Mp p k:=by
 obtain⟨f,r,o,s,wt⟩:=p;obtain⟨b100,b99,b121,b104,b108,b94,b36,b124,b119,b87,b98,b66,b101,b69,b37,b59,b44,b102,b70,b116,b84,b105,b97,b73,b65,b115,b83,b67,b68,b120,b88,b112,b80,b89,b126,b117,b85,b46,b106,b107,b71,b47,b63,b110,b78,b82,b114,b34,b48⟩:(k==100)=false∧(k==99)=false∧(k==121)=false∧(k==104)=false∧(k==108)=false∧(k==94)=false∧(k==36)=false∧(k==124)=false∧(k==119)=false∧(k==87)=false∧(k==98)=false∧(k==66)=false∧(k==101)=false∧(k==69)=false∧(k==37)=false∧(k==59)=false∧(k==44)=false∧(k==102)=false∧(k==70)=false∧(k==116)=false∧(k==84)=false∧(k==105)=false∧(k==97)=false∧(k==73)=false∧(k==65)=false∧(k==115)=false∧(k==83)=false∧(k==67)=false∧(k==68)=false∧(k==120)=false∧(k==88)=false∧(k==112)=false∧(k==80)=false∧(k==89)=false∧(k==126)=false∧(k==117)=false∧(k==85)=false∧(k==46)=false∧(k==106)=false∧(k==107)=false∧(k==71)=false∧(k==47)=false∧(k==63)=false∧(k==110)=false∧(k==78)=false∧(k==82)=false∧(k==114)=false∧(k==34)=false∧(k==48)=false:=by simp only[beq_eq_false_iff_ne,ne_eq];simpa only[not_or]using hn
 clear hn;have hop:Gq k=false:=by unfold Gq;simp only[*];rfl
 have hz:Be ⟨f,r,o,s,wt⟩ k=0:=by
  have hmo:Kj k=false:=by unfold Kj;simp only[*];rfl
  have hfi:Hj k=false:=by unfold Hj;simp only[*];rfl
  have hpl:Ff k=false:=by unfold Ff;simp only[*];rfl
  have hdi:∀p,Hu p k=false:=by intro p;unfold Hu;rw[b48];simp;omega
  simp only[beq_eq_false_iff_ne]at b105 b97 b34 b114;unfold Be;simp[hop,hmo,hfi,hpl,hdi,b105,b97,b34,b114]
 by_cases h49:49≤k
 ·have h57:¬k≤57:=fun h=>hd ⟨h49,h⟩
  exact I69
 ·exact I69
theorem Su (p:Pt)(k:Int):Mp p k:=by
 by_cases ha:k=100∨k=99∨k=121
 ·exact Z1e p k ha
 by_cases hb:k=104∨k=108∨k=94∨k=36∨k=124∨k=119∨k=87∨k=98∨k=66∨k=101∨k=69∨k=37∨k=59∨k=44
 ·exact Z1d p k hb
 by_cases hc:k=102∨k=70∨k=116∨k=84
 ·exact Z1c p k hc
 by_cases hd:k=105∨k=97
 ·exact Z1b p k hd
 by_cases he:k=73∨k=65∨k=115∨k=83∨k=67∨k=68∨k=120∨k=88∨k=112∨k=80∨k=89∨k=126∨k=117∨k=85∨k=46∨k=106∨k=107∨k=71∨k=47∨k=63∨k=110∨k=78∨k=82
 ·exact Z1a p k he
 by_cases hf:k=114
 ·exact Z0z p k hf
 by_cases h34:k=34
 ·exact Q6w p k h34
 by_cases h48:k=48
 ·exact Q6v p k h48
 by_cases hd:49≤k∧k≤57
 ·exact Q3g p k hd.1 hd.2
 ·exact J8e p k (by rintro h;simp only[not_or]at *;omega) hd
theorem Ge {f r o s wt:Int}(h:Fl ⟨f,r,o,s,wt⟩=true):0≤f∧f≤999∧0≤s∧s≤999∧(o=0→s≤0)∧(r=0∨r≠0∧Xt r=true)∧(o=0∨o≠0∧Gq o=true)∧D6 ⟨f,r,o,s,wt⟩=true:=by
 simp only[Fl,L6,Pr]at h;simp at h;obtain⟨⟨⟨h1,h2⟩,h3,h4⟩,h5⟩:=h;refine⟨by omega,by omega,by omega,by omega,?_,?_,?_,h5⟩
 ·intro e;rcases h2 with h2|h2
  ·exact h2
  ·exact absurd e h2
 ·by_cases hr:r=0
  ·exact .inl hr
  ·exact .inr ⟨hr,by rcases h3 with h|h;exact absurd h hr;exact h⟩
 ·by_cases ho:o=0
  ·exact .inl ho
  ·exact .inr ⟨ho,by rcases h4 with h|h;exact absurd h ho;exact h⟩
theorem J4v {f r o s wt:Int}(h:D6 ⟨f,r,o,s,wt⟩=true):wt=0∨wt=102∨wt=70∨wt=116∨wt=84∨wt=114∨wt=34∨wt=105∨wt=97:=by
 unfold D6 at h;simp only at h;split at h
 ·rename_i h1;simp at h1;omega
 ·split at h
  ·rename_i h1;simp at h1;omega
  ·split at h
   ·rename_i h1;simp at h1;omega
   ·cases h
theorem ckW {f r o s wt:Int}{bl bo:Bool}{w:World}(hx:Am w (w.alloc (.cells #[.int .i64 f,.int .i64 r,.int .i64 o,.int .i64 s,.int .i64 wt] 34)))(HL:Hid (∀w,Calls Tryz.prog 135 #[.int .i64 r] w fun e w'=>e=.returned (.bool bl)∧w=w'))(HO:Hid (∀w,Calls Tryz.prog 136 #[.int .i64 o] w fun e w'=>e=.returned (.bool bo)∧w=w'))
 (h:Calls Tryz.prog 86 #[.agg #[.int .i64 f,.int .i64 r,.int .i64 o,.int .i64 s,.int .i64 wt]] w fun e w'=>e=.returned (.int .i64 0)∧Am w w':=by(go_enter Tryz.func86,Tryz.ntmps86;go_wp2_with (first|(go_at_call 135;refine(HL.out _).mono ?_;rintro e w' ⟨rfl,rfl⟩)|(go_at_call 136;refine(HO.out _).mono ?_;rintro e w' ⟨rfl,rfl⟩));all_goals go_ret;all_goals exact⟨rfl,hx⟩)):Calls Tryz.prog 86 #[.agg #[.int .i64 f,.int .i64 r,.int .i64 o,.int .i64 s,.int .i64 wt]] w fun e w'=>e=.returned (.int .i64 0)∧Am w w':=h
theorem Qm {f r o s wt:Int}(hwt:wt=0∨wt=102∨wt=70∨wt=116∨wt=84)(w:World)(h:Fl ⟨f,r,o,s,wt⟩=true):Calls Tryz.prog 86 #[Jl ⟨f,r,o,s,wt⟩] w fun e w'=>e=.returned (.int .i64 0)∧Am w w':=by
 obtain⟨h1,h2,h3,h4,h5,hr,ho,hw⟩:=Ge h;have HL:=A6 (P8 r);have HO:=A6 (La o);have hx:=Am.alloc w (.cells #[.int .i64 f,.int .i64 r,.int .i64 o,.int .i64 s,.int .i64 wt] 34);clear h;unfold Jl;simp only;rcases hr with rfl|⟨hr0,hr⟩
 ·exact I19
 ·have hrb:(r !=0)=true:=by simpa using hr0
  have hrc:(r==0)=false:=by simpa using hr0
  rw[hr]at HL;exact I19
theorem Q8e {f r o s wt:Int}(hwt:wt=114)(w:World)(h:Fl ⟨f,r,o,s,wt⟩=true):Calls Tryz.prog 86 #[Jl ⟨f,r,o,s,wt⟩] w fun e w'=>e=.returned (.int .i64 0)∧Am w w':=by
 have N0:=trivial;exact K32
theorem Q8d {f r o s wt:Int}(hwt:wt=34)(w:World)(h:Fl ⟨f,r,o,s,wt⟩=true):Calls Tryz.prog 86 #[Jl ⟨f,r,o,s,wt⟩] w fun e w'=>e=.returned (.int .i64 0)∧Am w w':=by
 have N1:=trivial;exact K32
theorem J5y {f r o s wt:Int}(hwt:wt=105∨wt=97)(w:World)(h:Fl ⟨f,r,o,s,wt⟩=true):Calls Tryz.prog 86 #[Jl ⟨f,r,o,s,wt⟩] w fun e w'=>e=.returned (.int .i64 0)∧Am w w':=by
 obtain⟨h1,h2,h3,h4,h5,hr,ho,hw⟩:=Ge h;have HL:=A6 (P8 r);have HO:=A6 (La o);have hx:=Am.alloc w (.cells #[.int .i64 f,.int .i64 r,.int .i64 o,.int .i64 s,.int .i64 wt] 34);clear h;unfold Jl;simp only;rcases hr with rfl|⟨hr0,hr⟩
 ·rcases ho with rfl|⟨ho0,ho⟩
  ·have hs0:s=0:=by have h6:=h5 rfl;omega
   subst hs0;exfalso;revert hw;rcases hwt with rfl|rfl<;>simp[D6]
  ·exact I50
 ·have hrb:(r !=0)=true:=by simpa using hr0
  have hrc:(r==0)=false:=by simpa using hr0
  rw[hr]at HL;rcases ho with rfl|⟨ho0,ho⟩
  ·have hs0:s=0:=by have h6:=h5 rfl;omega
   subst hs0;exfalso;revert hw;rcases hwt with rfl|rfl<;>simp[D6,hr0]
  ·exact I50
theorem Re {p:Pt}(w:World)(h:Fl p=true):Calls Tryz.prog 86 #[Jl p] w fun e w'=>e=.returned (.int .i64 0)∧Am w w':=by
 obtain⟨f,r,o,s,wt⟩:=p;rcases J4v (Ge h).2.2.2.2.2.2.2 with rfl|rfl|rfl|rfl|rfl|rfl|rfl|rfl|rfl
 ·exact Qm (by simp) w h
 ·exact Qm (by simp) w h
 ·exact Qm (by simp) w h
 ·exact Qm (by simp) w h
 ·exact Qm (by simp) w h
 ·exact Q8e (by simp) w h
 ·exact Q8d (by simp) w h
 ·exact J5y (by simp) w h
 ·exact J5y (by simp) w h
def Sz (t:Tk):Value:=.tuple #[Jl t.p,cmV t.c,.int .i64 t.how,.int .i64 0]
theorem three {w:World}(a0 a1 a2 a3 a4 b0 b1 b2 b3 b4 c0 c1 c2 c3 c4:Value):
 Ap (((w.alloc (.cells #[a0,a1,a2,a3,a4] 34)).alloc (.cells #[b0,b1,b2,b3,b4] 34)).alloc (.cells #[c0,c1,c2,c3,c4] 62)) w.heap.size 34 #[a0,a1,a2,a3,a4]∧Ap (((w.alloc (.cells #[a0,a1,a2,a3,a4] 34)).alloc (.cells #[b0,b1,b2,b3,b4] 34)).alloc (.cells #[c0,c1,c2,c3,c4] 62)) (w.heap.size+1) 34 #[b0,b1,b2,b3,b4]∧Ap (((w.alloc (.cells #[a0,a1,a2,a3,a4] 34)).alloc (.cells #[b0,b1,b2,b3,b4] 34)).alloc (.cells #[c0,c1,c2,c3,c4] 62)) (w.heap.size+1+1) 62 #[c0,c1,c2,c3,c4]∧Am w (((w.alloc (.cells #[a0,a1,a2,a3,a4] 34)).alloc (.cells #[b0,b1,b2,b3,b4] 34)).alloc (.cells #[c0,c1,c2,c3,c4] 62)):=by
 have h0:=((Ap.new w 34 #[a0,a1,a2,a3,a4]).ext (Am.alloc _ (.cells #[b0,b1,b2,b3,b4] 34))).ext (Am.alloc _ (.cells #[c0,c1,c2,c3,c4] 62));have h1:=(Ap.new (w.alloc (.cells #[a0,a1,a2,a3,a4] 34)) 34 #[b0,b1,b2,b3,b4]).ext (Am.alloc _ (.cells #[c0,c1,c2,c3,c4] 62));have h2:=Ap.new ((w.alloc (.cells #[a0,a1,a2,a3,a4] 34)).alloc (.cells #[b0,b1,b2,b3,b4] 34)) 62 #[c0,c1,c2,c3,c4];rw[show(w.alloc (.cells #[a0,a1,a2,a3,a4] 34)).heap.size=w.heap.size+1 by simp]at h1
 rw[show((w.alloc (.cells #[a0,a1,a2,a3,a4] 34)).alloc (.cells #[b0,b1,b2,b3,b4] 34)).heap.size=w.heap.size+1+1 by simp]at h2
 exact⟨h0,h1,h2,((Am.alloc _ _).to_alloc _).to_alloc _⟩
theorem J1g {f r o s k:Int}(hl:Xt k=true)(w:World):Calls Tryz.prog 87 #[Jl ⟨f,r,o,s,34⟩,.int .i64 k] w fun e w'=>e=.returned (Sz ⟨⟨f,k,o,s,0⟩,Cm.zero,1⟩)∧Am w w':=by
 have N0:=trivial;exact K40
theorem J9u {f r o s k:Int}(hl:Xt k=false)(w:World):Calls Tryz.prog 87 #[Jl ⟨f,r,o,s,34⟩,.int .i64 k] w fun e w'=>e=.returned (Sz Dw)∧Am w w':=by
 have N1:=trivial;exact K40
theorem Jh {f r o s v k:Int}(hv:(v=102∨v=70∨v=116∨v=84∨v=114)∨(v=105∨v=97)∧(k=119∨k=87∨k=40∨k=41∨k=91∨k=93∨k=123∨k=125∨k=34∨k=39∨k=96))(hf:0≤f∧f≤999)(hs:0≤s∧s≤999)(w:World):Calls Tryz.prog 87 #[Jl ⟨f,r,o,s,v⟩,.int .i64 k] w fun e w'=>e=.returned (Sz ⟨Pt.zero,Mv ⟨f,r,o,s,v⟩ v k,2⟩)∧Am w w':=by
 obtain⟨hb0,hb1,hb2,hx⟩:=three (w:=w) (.int .i64 f) (.int .i64 r) (.int .i64 o) (.int .i64 s) (.int .i64 v) (.int .i64 0) (.int .i64 0) (.int .i64 0) (.int .i64 0) (.int .i64 0) (.int .i64 0) (.int .i64 0) (.int .i64 0) (.int .i64 0) (.int .i64 0);have HC:Hid (∀wq:World,_):=A6 fun(wq:World)=>Kv ⟨f,r,o,s,v⟩ v k wq hf hs
 unfold Jl cmV at HC;simp only at HC;unfold Mv at HC;simp only at HC;obtain⟨Sy,ht⟩:∃Sy,Xr ⟨f,r,o,s,v⟩=Sy:=⟨_,rfl⟩;rw[ht]at HC;have HT:=A6 ht;clear ht hf hs;unfold Jl;simp only;obtain⟨u,hu⟩:∃u,u=v:=⟨_,rfl⟩;obtain⟨j,hj⟩:∃j,j=k:=⟨_,rfl⟩;rcases hv with(rfl|rfl|rfl|rfl|rfl)|⟨rfl|rfl,rfl|rfl|rfl|rfl|rfl|rfl|rfl|rfl|rfl|rfl|rfl⟩
 all_goals (
  go_enter Tryz.func87,Tryz.ntmps87
  go_wp2_with fail
  refine(HC.out _).mono ?_
  rintro e w1 ⟨rfl,he1⟩;have HB1:=hb1.ext he1;have HB2:=hb2.ext he1;have heW:=hx.trans he1;clear hb0 hb1 hb2 hx;have hB1:=Cv (.int .i64 Sy) (.int .i64 r) (.int .i64 o) (.int .i64 u) (.int .i64 j) (M4 (.int .i64 0) (.int .i64 0) (.int .i64 0) (.int .i64 0) (.int .i64 0) HB1) (show w.heap.size+1+1≠w.heap.size+1 by omega)
  have hB2:=M4 (.int .i64 Sy) (.int .i64 r) (.int .i64 o) (.int .i64 u) (.int .i64 j) (Cv (.int .i64 0) (.int .i64 0) (.int .i64 0) (.int .i64 0) (.int .i64 0) HB2 (show w.heap.size+1≠w.heap.size+1+1 by omega))
  have hend:=Dh (.int .i64 Sy) (.int .i64 r) (.int .i64 o) (.int .i64 u) (.int .i64 j) (Dh (.int .i64 0) (.int .i64 0) (.int .i64 0) (.int .i64 0) (.int .i64 0) heW (Nat.le_succ w.heap.size)) (show w.heap.size≤w.heap.size+1+1 by omega)
  subst hu hj;obtain⟨⟨e0,e1,e2,e3,e4⟩,_⟩:=hB1.five;obtain⟨⟨d0,d1,d2,d3,d4⟩,_⟩:=hB2.five;obtain⟨⟨c0,c1,c2,c3,c4⟩,⟨f0,f1,f2,f3,f4⟩⟩:=Ap.five HB1;obtain⟨⟨x0,x1,x2,x3,x4⟩,⟨y0,y1,y2,y3,y4⟩⟩:=Ap.five HB2;clear hB1 hB2;clear HB1 HB2 heW HC he1;go_wp2_with fail
  refine bodyPost_ret (by simp[results,Tryz.results87,go_sem,e0,e1,e2,e3,e4,d0,d1,d2,d3,d4];try rfl) rfl ?_
  exact⟨by rw[←HT.out];rfl,hend⟩)
theorem J0h {f r o s v k:Int}(hv:v=105∨v=97)(hn:¬(k=119∨k=87∨k=40∨k=41∨k=91∨k=93∨k=123∨k=125∨k=34∨k=39∨k=96))(w:World):Calls Tryz.prog 87 #[Jl ⟨f,r,o,s,v⟩,.int .i64 k] w fun e w'=>e=.returned (Sz Dw)∧Am w w':=by
 obtain⟨b119,b87,b40,b41,b91,b93,b123,b125,b34,b39,b96⟩:(k==119)=false∧(k==87)=false∧(k==40)=false∧(k==41)=false∧(k==91)=false∧(k==93)=false∧(k==123)=false∧(k==125)=false∧(k==34)=false∧(k==39)=false∧(k==96)=false:=by simp only[beq_eq_false_iff_ne,ne_eq];simpa only[not_or]using hn
 clear hn;unfold Jl;simp only;rcases hv with rfl|rfl
 all_goals (
  go_enter Tryz.func87,Tryz.ntmps87
  go_wp2_with fail
  obtain⟨_,hB1,hB2,hend⟩:=three (w:=w) (.int .i64 f) (.int .i64 r) (.int .i64 o) (.int .i64 s) (.int .i64 _) (.int .i64 0) (.int .i64 0) (.int .i64 0) (.int .i64 0) (.int .i64 0) (.int .i64 0) (.int .i64 0) (.int .i64 0) (.int .i64 0) (.int .i64 0);obtain⟨⟨e0,e1,e2,e3,e4⟩,_⟩:=hB1.five;obtain⟨⟨d0,d1,d2,d3,d4⟩,_⟩:=hB2.five;refine bodyPost_ret (by simp[results,Tryz.results87,go_sem,e0,e1,e2,e3,e4,d0,d1,d2,d3,d4];try rfl) rfl ?_
  exact⟨rfl,hend⟩)
theorem J4o {p:Pt}{k:Int}(w:World)(h:Fl p=true)(hw:p.wait≠0):Calls Tryz.prog 87 #[Jl p,.int .i64 k] w fun e w'=>e=.returned (Sz (G6 p k))∧Am w w':=by
 obtain⟨f,r,o,s,wt⟩:=p;obtain⟨h1,h2,h3,h4,h5,hr,ho,hwt⟩:=Ge h;rcases J4v hwt with rfl|rfl|rfl|rfl|rfl|rfl|rfl|rfl|rfl
 ·exact absurd rfl hw
 ·exact Jh (by simp) ⟨h1,h2⟩ ⟨h3,h4⟩ w
 ·exact Jh (by simp) ⟨h1,h2⟩ ⟨h3,h4⟩ w
 ·exact Jh (by simp) ⟨h1,h2⟩ ⟨h3,h4⟩ w
 ·exact Jh (by simp) ⟨h1,h2⟩ ⟨h3,h4⟩ w
 ·exact Jh (by simp) ⟨h1,h2⟩ ⟨h3,h4⟩ w
 ·cases hl:Xt k with
  |true=>
   have e:G6 ⟨f,r,o,s,34⟩ k=⟨⟨f,k,o,s,0⟩,Cm.zero,1⟩:=by simp[G6,hl]
   rw[e];exact J1g hl w
  |false=>
   have e:G6 ⟨f,r,o,s,34⟩ k=Dw:=by simp[G6,hl]
   rw[e];exact J9u hl w
 ·by_cases hk:k=119∨k=87∨k=40∨k=41∨k=91∨k=93∨k=123∨k=125∨k=34∨k=39∨k=96
  ·have e:G6 ⟨f,r,o,s,105⟩ k=⟨Pt.zero,Mv ⟨f,r,o,s,105⟩ 105 k,2⟩:=by rcases hk with rfl|rfl|rfl|rfl|rfl|rfl|rfl|rfl|rfl|rfl|rfl<;>rfl
   rw[e];exact Jh (Or.inr ⟨by simp,hk⟩) ⟨h1,h2⟩ ⟨h3,h4⟩ w
  have e:G6 ⟨f,r,o,s,105⟩ k=Dw:=by simp only[not_or]at hk;simp[G6,Q9b,hk]
  rw[e];exact J0h (by simp) hk w
 ·by_cases hk:k=119∨k=87∨k=40∨k=41∨k=91∨k=93∨k=123∨k=125∨k=34∨k=39∨k=96
  ·have e:G6 ⟨f,r,o,s,97⟩ k=⟨Pt.zero,Mv ⟨f,r,o,s,97⟩ 97 k,2⟩:=by rcases hk with rfl|rfl|rfl|rfl|rfl|rfl|rfl|rfl|rfl|rfl|rfl<;>rfl
   rw[e];exact Jh (Or.inr ⟨by simp,hk⟩) ⟨h1,h2⟩ ⟨h3,h4⟩ w
  have e:G6 ⟨f,r,o,s,97⟩ k=Dw:=by simp only[not_or]at hk;simp[G6,Q9b,hk]
  rw[e];exact J0h (by simp) hk w
theorem Q1k {f r o s wt k:Int}(hk:k<32)(w:World)(h:Fl ⟨f,r,o,s,wt⟩=true):Calls Tryz.prog 65 #[Jl ⟨f,r,o,s,wt⟩,.int .i64 k] w fun e w'=>e=.returned (Sz Dw)∧Am w w':=by
 have N0:=trivial;exact K18
theorem Q1l {f r o s wt:Int}(w:World)(h:Fl ⟨f,r,o,s,wt⟩=true):Calls Tryz.prog 65 #[Jl ⟨f,r,o,s,wt⟩,.int .i64 127] w fun e w'=>e=.returned (Sz Dw)∧Am w w':=by
 have N1:=trivial;exact K18
theorem J2j {f r o s wt k:Int}(h32:¬k<32)(h127:k≠127)(hw:wt≠0)(w:World)(h:Fl ⟨f,r,o,s,wt⟩=true):Calls Tryz.prog 65 #[Jl ⟨f,r,o,s,wt⟩,.int .i64 k] w fun e w'=>e=.returned (Sz (G6 ⟨f,r,o,s,wt⟩ k))∧Am w w':=by
 have N2:=trivial;exact K18
theorem J6q {f r o s k:Int}(h32:¬k<32)(h127:k≠127)(hz:Be ⟨f,r,o,s,0⟩ k=0)(w:World)(h:Fl ⟨f,r,o,s,0⟩=true):Calls Tryz.prog 65 #[Jl ⟨f,r,o,s,0⟩,.int .i64 k] w fun e w'=>e=.returned (Sz Dw)∧Am w w':=by
 have N0:=trivial;exact K9
theorem J2d {f r o s k:Int}(h32:¬k<32)(h127:k≠127)(hz:Be ⟨f,r,o,s,0⟩ k=2)(w:World)(h:Fl ⟨f,r,o,s,0⟩=true):Calls Tryz.prog 65 #[Jl ⟨f,r,o,s,0⟩,.int .i64 k] w fun e w'=>e=.returned (Sz ⟨⟨f,r,o,s,k⟩,Cm.zero,1⟩)∧Am w w':=by
 have N1:=trivial;exact K9
theorem J2c {f r o s k:Int}(h32:¬k<32)(h127:k≠127)(hz:Be ⟨f,r,o,s,0⟩ k=4)(w:World)(h:Fl ⟨f,r,o,s,0⟩=true):Calls Tryz.prog 65 #[Jl ⟨f,r,o,s,0⟩,.int .i64 k] w fun e w'=>e=.returned (Sz ⟨⟨f,r,o,s,k⟩,Cm.zero,1⟩)∧Am w w':=by
 have N2:=trivial;exact K9
theorem J2b {f r o s k:Int}(h32:¬k<32)(h127:k≠127)(hz:Be ⟨f,r,o,s,0⟩ k=7)(w:World)(h:Fl ⟨f,r,o,s,0⟩=true):Calls Tryz.prog 65 #[Jl ⟨f,r,o,s,0⟩,.int .i64 k] w fun e w'=>e=.returned (Sz ⟨⟨f,r,o,s,k⟩,Cm.zero,1⟩)∧Am w w':=by
 have N3:=trivial;exact K9
theorem J2a {f r o s k:Int}(h32:¬k<32)(h127:k≠127)(hz:Be ⟨f,r,o,s,0⟩ k=8)(w:World)(h:Fl ⟨f,r,o,s,0⟩=true):Calls Tryz.prog 65 #[Jl ⟨f,r,o,s,0⟩,.int .i64 k] w fun e w'=>e=.returned (Sz ⟨⟨f,r,o,s,k⟩,Cm.zero,1⟩)∧Am w w':=by
 have N4:=trivial;exact K9
theorem J0o {f r o s k:Int}(h32:¬k<32)(h127:k≠127)(hk:0≤k∧k≤255)(ho:o≠0)(hz:Be ⟨f,r,o,s,0⟩ k=1)(w:World)(h:Fl ⟨f,r,o,s,0⟩=true):Calls Tryz.prog 65 #[Jl ⟨f,r,o,s,0⟩,.int .i64 k] w fun e w'=>e=.returned (Sz ⟨⟨f,r,o,Fs s k,0⟩,Cm.zero,1⟩)∧Am w w':=by
 have N5:=trivial;exact K9
theorem J6s {f r o s k:Int}(h32:¬k<32)(h127:k≠127)(hz:Be ⟨f,r,o,s,0⟩ k=5)(w:World)(h:Fl ⟨f,r,o,s,0⟩=true):Calls Tryz.prog 65 #[Jl ⟨f,r,o,s,0⟩,.int .i64 k] w fun e w'=>e=.returned (Sz ⟨Pt.zero,Mv ⟨f,r,o,s,0⟩ k 0,2⟩)∧Am w w':=by
 have N6:=trivial;exact K9
theorem J6r {f r o s k:Int}(h32:¬k<32)(h127:k≠127)(hz:Be ⟨f,r,o,s,0⟩ k=6)(w:World)(h:Fl ⟨f,r,o,s,0⟩=true):Calls Tryz.prog 65 #[Jl ⟨f,r,o,s,0⟩,.int .i64 k] w fun e w'=>e=.returned (Sz ⟨Pt.zero,Mv ⟨f,r,o,s,0⟩ k 0,2⟩)∧Am w w':=by
 have N7:=trivial;exact K9
theorem J2e {f r o s k:Int}(h32:¬k<32)(h127:k≠127)(ho:o≠0)(hok:o=k)(hz:Be ⟨f,r,o,s,0⟩ k=3)(w:World)(h:Fl ⟨f,r,o,s,0⟩=true):Calls Tryz.prog 65 #[Jl ⟨f,r,o,s,0⟩,.int .i64 k] w fun e w'=>e=.returned (Sz ⟨Pt.zero,Mv ⟨f,r,o,s,0⟩ k 0,2⟩)∧Am w w':=by
 have N8:=trivial;exact K9
theorem J2i {f r s k:Int}(h32:¬k<32)(h127:k≠127)(hk:0≤k∧k≤255)  (hz:Be ⟨f,r,0,s,0⟩ k=1)(w:World)(h:Fl ⟨f,r,0,s,0⟩=true):Calls Tryz.prog 65 #[Jl ⟨f,r,0,s,0⟩,.int .i64 k] w fun e w'=>e=.returned (Sz ⟨⟨Fs f k,r,0,s,0⟩,Cm.zero,1⟩)∧Am w w':=by
 have N9:=trivial;exact K9
theorem J6o {f r s k:Int}(h32:¬k<32)(h127:k≠127)(hz:Be ⟨f,r,0,s,0⟩ k=3)(w:World)(h:Fl ⟨f,r,0,s,0⟩=true):Calls Tryz.prog 65 #[Jl ⟨f,r,0,s,0⟩,.int .i64 k] w fun e w'=>e=.returned (Sz ⟨⟨f,r,k,s,0⟩,Cm.zero,1⟩)∧Am w w':=by
 have N10:=trivial;exact K9
theorem J2g {f r o s k:Int}(h32:¬k<32)(h127:k≠127)(ho:o≠0)(hok:o≠k)(hz:Be ⟨f,r,o,s,0⟩ k=3)(w:World)(h:Fl ⟨f,r,o,s,0⟩=true):Calls Tryz.prog 65 #[Jl ⟨f,r,o,s,0⟩,.int .i64 k] w fun e w'=>e=.returned (Sz Dw)∧Am w w':=by
 have N11:=trivial;exact K9
theorem J3m (p:Pt)(k:Int):Be p k=0∨Be p k=1∨Be p k=2∨Be p k=3∨Be p k=4∨Be p k=5∨Be p k=6∨Be p k=7∨Be p k=8:=by
 unfold Be
 (repeat' split)<;>decide
theorem J3n {p:Pt}{k:Int}(h:Be p k=1):0≤k∧k≤255:=by
 have hdb:Hu p k=true:=by
  unfold Be at h;split at h
  ·assumption
  ·exfalso;revert h;(repeat' split)<;>decide
 unfold Hu at hdb;simp at hdb;omega
theorem J0p {p:Pt}{k:Int}(w:World)(h:Fl p=true):Calls Tryz.prog 65 #[Jl p,.int .i64 k] w fun e w'=>e=.returned (Sz (Co p k))∧Am w w':=by
 obtain⟨f,r,o,s,wt⟩:=p;by_cases h32:k<32
 ·have e:Co ⟨f,r,o,s,wt⟩ k=Dw:=by unfold Co;rw[if_pos (.inl h32)]
  rw[e];exact Q1k h32 w h
 by_cases h127:k=127
 ·subst h127
  have e:Co ⟨f,r,o,s,wt⟩ 127=Dw:=by unfold Co;rw[if_pos (.inr rfl)]
  rw[e];exact Q1l w h
 have hn:¬(k<32∨k=127):=fun hh=>hh.elim h32 h127
 by_cases hw:wt=0
 rotate_left
 ·have e:Co ⟨f,r,o,s,wt⟩ k=G6 ⟨f,r,o,s,wt⟩ k:=by unfold Co;rw[if_neg hn];exact if_pos hw
  rw[e];exact J2j h32 h127 hw w h
 subst hw;rcases J3m ⟨f,r,o,s,0⟩ k with hz|hz|hz|hz|hz|hz|hz|hz|hz
 ·have e:Co ⟨f,r,o,s,0⟩ k=Dw:=by unfold Co;rw[if_neg hn,if_neg (by simp)];simp[hz]
  rw[e];exact J6q h32 h127 hz w h
 ·have hk:=J3n hz
  by_cases ho:o=0
  ·subst ho
   have e:Co ⟨f,r,0,s,0⟩ k=⟨⟨Fs f k,r,0,s,0⟩,Cm.zero,1⟩:=by unfold Co;rw[if_neg hn,if_neg (by simp)];simp[hz]
   rw[e];exact J2i h32 h127 hk hz w h
  ·have e:Co ⟨f,r,o,s,0⟩ k=⟨⟨f,r,o,Fs s k,0⟩,Cm.zero,1⟩:=by unfold Co;rw[if_neg hn,if_neg (by simp)];simp[hz,ho]
   rw[e];exact J0o h32 h127 hk ho hz w h
 ·have e:Co ⟨f,r,o,s,0⟩ k=⟨⟨f,r,o,s,k⟩,Cm.zero,1⟩:=by unfold Co;rw[if_neg hn,if_neg (by simp)];simp[hz]
  rw[e];exact J2d h32 h127 hz w h
 ·by_cases ho:o=0
  ·subst ho
   have e:Co ⟨f,r,0,s,0⟩ k=⟨⟨f,r,k,s,0⟩,Cm.zero,1⟩:=by unfold Co;rw[if_neg hn,if_neg (by simp)];simp[hz]
   rw[e];exact J6o h32 h127 hz w h
  ·by_cases hok:o=k
   ·have e:Co ⟨f,r,o,s,0⟩ k=⟨Pt.zero,Mv ⟨f,r,o,s,0⟩ k 0,2⟩:=by unfold Co;rw[if_neg hn,if_neg (by simp)];rw[if_neg (by rw[hz];decide),if_neg (by rw[hz];decide),if_pos hz,if_neg ho,if_neg (fun hh=>hh hok)]
    rw[e];exact J2e h32 h127 ho hok hz w h
   ·have e:Co ⟨f,r,o,s,0⟩ k=Dw:=by unfold Co;rw[if_neg hn,if_neg (by simp)];rw[if_neg (by rw[hz];decide),if_neg (by rw[hz];decide),if_pos hz,if_neg ho,if_pos hok]
    rw[e];exact J2g h32 h127 ho hok hz w h
 ·have e:Co ⟨f,r,o,s,0⟩ k=⟨⟨f,r,o,s,k⟩,Cm.zero,1⟩:=by unfold Co;rw[if_neg hn,if_neg (by simp)];simp[hz]
  rw[e];exact J2c h32 h127 hz w h
 ·have e:Co ⟨f,r,o,s,0⟩ k=⟨Pt.zero,Mv ⟨f,r,o,s,0⟩ k 0,2⟩:=by unfold Co;rw[if_neg hn,if_neg (by simp)];simp[hz]
  rw[e];exact J6s h32 h127 hz w h
 ·have e:Co ⟨f,r,o,s,0⟩ k=⟨Pt.zero,Mv ⟨f,r,o,s,0⟩ k 0,2⟩:=by unfold Co;rw[if_neg hn,if_neg (by simp)];simp[hz]
  rw[e];exact J6r h32 h127 hz w h
 ·have e:Co ⟨f,r,o,s,0⟩ k=⟨⟨f,r,o,s,k⟩,Cm.zero,1⟩:=by unfold Co;rw[if_neg hn,if_neg (by simp)];simp[hz]
  rw[e];exact J2b h32 h127 hz w h
 ·have e:Co ⟨f,r,o,s,0⟩ k=⟨⟨f,r,o,s,k⟩,Cm.zero,1⟩:=by unfold Co;rw[if_neg hn,if_neg (by simp)];simp[hz]
  rw[e];exact J2a h32 h127 hz w h
theorem Q3f {p:Pt}{k:Int}(w:World)(h:Fl p=true):Calls Tryz.prog 65 #[Jl p,.int .i64 k] w fun e w'=>e=.returned (Sz (Co p k))∧Am w w':=J0p w h
