/-
  Part ZKeyW.
-/
import Derived.Test.YtiahhfglhlgfiaaGreatZBase
import Derived.IntWalk
import Derived.Laws.StructEq
import Derived.Deep.RegionHeld3
import Derived.Deep.RegionWith
set_option maxRecDepth 100000
set_option maxHeartbeats 16000000
set_option linter.unusedVariables false
set_option linter.unusedSimpArgs false
namespace Go.Proofs.YtiahhfglhlgfiaaGreat
open Go.RowKit
section
variable {a0 a1 a2 a3 a4:Value}{w:World}{cs:Array Value}{g t:Nat}
def Ja (p:Pt):Value:=.agg #[.int .i64 p.first,.int .i64 p.reg,.int .i64 p.op,.int .i64 p.second,.int .i64 p.wait]
def pR (c:Cm):Value:=.agg #[.int .i64 c.count,.int .i64 c.reg,.int .i64 c.op,.int .i64 c.verb,.int .i64 c.arg]
theorem Nh (c:Int)(w:World):Calls Tryz.prog 88 #[.int .i64 c] w fun e w'=>e=.returned (.bool (X2 c))∧w=w':=by
 obtain⟨z,hz⟩:∃z,X2 c=z:=⟨_,rfl⟩;rw[hz];have HZ:=A4 hz;clear hz;go_enter Tryz.func88,Tryz.ntmps88
 go_wp2_with fail
 all_goals go_ret
 all_goals refine⟨Fm ?_,rfl⟩
 all_goals (rw[←HZ.out,Bool.eq_iff_iff];unfold X2;simp;try omega)
theorem Ky (c:Int)(w:World):Calls Tryz.prog 89 #[.int .i64 c] w fun e w'=>e=.returned (.bool (Gb c))∧w=w':=by
 obtain⟨z,hz⟩:∃z,Gb c=z:=⟨_,rfl⟩;rw[hz];have HZ:=A4 hz;clear hz;go_enter Tryz.func89,Tryz.ntmps89
 go_wp2_with fail
 all_goals go_ret
 all_goals refine⟨Fm ?_,rfl⟩
 all_goals (rw[←HZ.out];unfold Gb;simp_all)
theorem Ul (n k:Int)(w:World)(hn:0≤n∧n≤999)(hk:0≤k∧k≤255):Calls Tryz.prog 52 #[.int .i64 n,.int .i64 k] w fun e w'=>e=.returned (.int .i64 (Fb n k))∧w=w':=by
 obtain⟨h1,h2⟩:=hn;obtain⟨h3,h4⟩:=hk;go_enter Tryz.func52,Tryz.ntmps52
 go_wp2_with fail
 all_goals go_ret
 all_goals exact⟨Hj (by unfold Fb;omega),rfl⟩
theorem lO (p:Pt)(w:World)(hf:0≤p.first∧p.first≤999)(hs:0≤p.second∧p.second≤999):Calls Tryz.prog 90 #[Ja p] w fun e w'=>e=.returned (.int .i64 (Wy p))∧Al w w':=by
 obtain⟨f,r,o,s,wt⟩:=p;obtain⟨h1,h2⟩:=hf;obtain⟨h3,h4⟩:=hs;have hx:=Al.alloc w (.cells #[.int .i64 f,.int .i64 r,.int .i64 o,.int .i64 s,.int .i64 wt] 36);obtain⟨z,hz⟩:∃z,Wy ⟨f,r,o,s,wt⟩=z:=⟨_,rfl⟩;rw[hz];have HZ:=A4 hz;have hm:IntKind.i64.wrap (f*s)=f*s:=by
  have a1:0≤f*s:=Int.mul_nonneg h1 h3;have a2:f*s≤999*999:=Int.mul_le_mul h2 h4 h3 (by decide)
  rw[IntWalk.i64_in _ (by omega)]
 clear hz;unfold Ja;go_enter Tryz.func90,Tryz.ntmps90
 go_wp2_with fail
 all_goals go_ret
 all_goals refine⟨Hj ?_,hx⟩
 all_goals (rw[←HZ.out];unfold Wy;simp_all)
 all_goals (clear hm;generalize f*s=m at *;omega)
theorem Lk (b0 b1 b2 b3 b4:Value)(h:An w g t #[a0,a1,a2,a3,a4]):An (((((w.setCell ⟨g,0,none⟩ b0).setCell ⟨g,1,none⟩ b1).setCell ⟨g,2,none⟩ b2).setCell ⟨g,3,none⟩ b3).setCell ⟨g,4,none⟩ b4) g t #[b0,b1,b2,b3,b4]:=by
 simpa using((((h.set_ 0 b0).set_ 1 b1).set_ 2 b2).set_ 3 b3).set_ 4 b4
theorem An.setNq (h:An w g t cs){p:Addr}(hp:p.block≠g)(u:Value):An (w.setCell p u) g t cs:=
 (Below.heap_setCell w p u g (fun e=>hp e.symm)).trans h
theorem Cq {g g' t:Nat}(b0 b1 b2 b3 b4:Value)(h:An w g' t cs)(hne:g≠g'):An (((((w.setCell ⟨g,0,none⟩ b0).setCell ⟨g,1,none⟩ b1).setCell ⟨g,2,none⟩ b2).setCell ⟨g,3,none⟩ b3).setCell ⟨g,4,none⟩ b4) g' t cs:=
 ((((h.setNq (p:=⟨g,0,none⟩) hne b0).setNq (p:=⟨g,1,none⟩) hne b1).setNq (p:=⟨g,2,none⟩) hne b2).setNq (p:=⟨g,3,none⟩) hne b3).setNq (p:=⟨g,4,none⟩) hne b4
theorem Df {w0 w:World}{g:Nat}(b0 b1 b2 b3 b4:Value)(h:Al w0 w)(hg:w0.heap.size≤g):Al w0 (((((w.setCell ⟨g,0,none⟩ b0).setCell ⟨g,1,none⟩ b1).setCell ⟨g,2,none⟩ b2).setCell ⟨g,3,none⟩ b3).setCell ⟨g,4,none⟩ b4):=
 ((((h.setCell (p:=⟨g,0,none⟩) hg b0).setCell (p:=⟨g,1,none⟩) hg b1).setCell (p:=⟨g,2,none⟩) hg b2).setCell (p:=⟨g,3,none⟩) hg b3).setCell (p:=⟨g,4,none⟩) hg b4
def xB (w:World)(g:Nat)(a0 a1 a2 a3 a4:Value):Prop:=
 (w.cell? ⟨g,0,none⟩=some a0∧w.cell? ⟨g,1,none⟩=some a1∧w.cell? ⟨g,2,none⟩=some a2∧w.cell? ⟨g,3,none⟩=some a3∧w.cell? ⟨g,4,none⟩=some a4)∧
 (w.frozen? ⟨g,0,none⟩=false∧w.frozen? ⟨g,1,none⟩=false∧w.frozen? ⟨g,2,none⟩=false∧w.frozen? ⟨g,3,none⟩=false∧w.frozen? ⟨g,4,none⟩=false)
theorem An.five (h:An w g t #[a0,a1,a2,a3,a4]):xB w g a0 a1 a2 a3 a4:=
 ⟨⟨h.cell 0,h.cell 1,h.cell 2,h.cell 3,h.cell 4⟩,⟨h.frozen 0,h.frozen 1,h.frozen 2,h.frozen 3,h.frozen 4⟩⟩
theorem Kk (p:Pt)(v a:Int)(w:World)(hf:0≤p.first∧p.first≤999)(hs:0≤p.second∧p.second≤999):
 Calls Tryz.prog 53 #[Ja p,.int .i64 v,.int .i64 a] w fun e w'=>e=.returned (pR (M9 p v a))∧Al w w':=by
 have HT:Hid (∀wq:World,Calls Tryz.prog 90 #[Ja p] wq fun e w'=>e=.returned (.int .i64 (Wy p))∧Al wq w'):=A4 fun wq=>lO p wq hf hs
 clear hf hs;obtain⟨z,hz⟩:∃z,Wy p=z:=⟨_,rfl⟩;rw[hz]at HT;unfold M9;rw[hz];clear hz;obtain⟨f,r,o,s,wt⟩:=p;unfold Ja at*;unfold pR;simp only at*;have hb0:=(An.new w 36 #[.int .i64 f,.int .i64 r,.int .i64 o,.int .i64 s,.int .i64 wt]).ext (Al.alloc _ (.cells #[.int .i64 0,.int .i64 0,.int .i64 0,.int .i64 0,.int .i64 0] 87));have hb1:=An.new (w.alloc (.cells #[.int .i64 f,.int .i64 r,.int .i64 o,.int .i64 s,.int .i64 wt] 36)) 87 #[.int .i64 0,.int .i64 0,.int .i64 0,.int .i64 0,.int .i64 0];rw[show(w.alloc (.cells #[.int .i64 f,.int .i64 r,.int .i64 o,.int .i64 s,.int .i64 wt] 36)).heap.size=w.heap.size+1 by simp]at hb1
 have hx:=(Al.alloc w (.cells #[.int .i64 f,.int .i64 r,.int .i64 o,.int .i64 s,.int .i64 wt] 36)).to_alloc (.cells #[.int .i64 0,.int .i64 0,.int .i64 0,.int .i64 0,.int .i64 0] 87);go_enter Tryz.func53,Tryz.ntmps53
 go_wp2_with fail
 revert hb0 hb1 hx
 generalize (w.alloc (.cells #[.int .i64 f,.int .i64 r,.int .i64 o,.int .i64 s,.int .i64 wt] 36)).alloc (.cells #[.int .i64 0,.int .i64 0,.int .i64 0,.int .i64 0,.int .i64 0] 87)=W0;intro hb0 hb1 hx;have k0:=hb0.cell 0;have k1:=hb0.cell 1;have k2:=hb0.cell 2;have k3:=hb0.cell 3;have k4:=hb0.cell 4;simp only[List.getElem?_toArray,List.getElem?_cons_zero,List.getElem?_cons_succ]at k0 k1 k2 k3 k4;have hxd:=Al.drew W0;have HW:Hid (∀w2,Al W0 w2→xB w2 w.heap.size (.int .i64 f) (.int .i64 r) (.int .i64 o) (.int .i64 s) (.int .i64 wt)):=A4 fun w2 he=>(hb0.ext he).five
 have HY:Hid (∀w2,Al W0 w2→An w2 (w.heap.size+1) 87 #[.int .i64 0,.int .i64 0,.int .i64 0,.int .i64 0,.int .i64 0]):=A4 fun w2 he=>hb1.ext he
 have HX:Hid (∀w2,Al W0 w2→Al w w2):=A4 fun w2 he=>hx.trans he
 clear hb0 hb1 hx;go_region_with (first
  |(
   go_at_call 90
   refine(HT.out _).mono ?_
   rintro e w2 ⟨rfl,he2⟩;have hf2:=hxd.trans he2;obtain⟨⟨j0,j1,j2,j3,j4⟩,_⟩:=HW.out w2 hf2;obtain⟨⟨c0,c1,c2,c3,c4⟩,⟨f0,f1,f2,f3,f4⟩⟩:=(HY.out w2 hf2).five))
 all_goals
  have hB:=Lk (.int .i64 z) (.int .i64 r) (.int .i64 o) (.int .i64 v) (.int .i64 a) (HY.out w2 hf2);have hend:=Df (.int .i64 z) (.int .i64 r) (.int .i64 o) (.int .i64 v) (.int .i64 a) (HX.out w2 hf2) (Nat.le_succ w.heap.size);obtain⟨⟨e0,e1,e2,e3,e4⟩,_⟩:=hB.five;clear c0 c1 c2 c3 c4 f0 f1 f2 f3 f4 j0 j1 j2 j3 j4 k0 k1 k2 k3 k4 hB;go_wp2_with fail
  refine bodyPost_ret (by simp[results,Tryz.results53,go_sem,e0,e1,e2,e3,e4];try rfl) rfl ?_
  exact⟨rfl,hend⟩
end
