/-
  Part ZKeyW.
-/
import Derived.Test.YtkaefdmhlmlhbaaGreatZBase
import Derived.IntWalk
import Derived.Laws.StructEq
import Derived.Deep.RegionHeld3
import Derived.Deep.RegionWith
set_option maxRecDepth 100000
set_option maxHeartbeats 16000000
set_option linter.unusedVariables false
set_option linter.unusedSimpArgs false
namespace Go.Proofs.YtkaefdmhlmlhbaaGreat
open Go.RowKit
open _root_.Go.Proofs.Tryz
section
variable {a0 a1 a2 a3 a4:Value}{w:World}{cs:Array Value}{g t:Nat}
def Kb (p:Pt):Value:=.agg #[p.first,p.reg,p.op,p.second,p.wait]
def xN (c:Cm):Value:=.agg #[c.count,c.reg,c.op,c.verb,c.arg]
theorem Qm (c:Int)(w:World):Calls prog 135 #[.int .i64 c] w fun e w'=>e=.returned (.bool (Qq c))∧w=w':=by
 obtain⟨z,hz⟩:∃z,Qq c=z:=⟨_,rfl⟩;rw[hz];have HZ:=A6 hz;clear hz;go_enter func135,ntmps135
 go_wp2_with fail
 all_goals go_ret
 all_goals refine⟨Gt ?_,rfl⟩
 all_goals (rw[←HZ.out,Bool.eq_iff_iff];unfold Qq;simp;try omega)
theorem Ml (c:Int)(w:World):Calls prog 136 #[.int .i64 c] w fun e w'=>e=.returned (.bool (Fu c))∧w=w':=by
 obtain⟨z,hz⟩:∃z,Fu c=z:=⟨_,rfl⟩;rw[hz];have HZ:=A6 hz;clear hz;go_enter func136,ntmps136
 go_wp2_with fail
 all_goals go_ret
 all_goals refine⟨Gt ?_,rfl⟩
 all_goals (rw[←HZ.out];unfold Fu;simp_all)
theorem Xx (n k:Int)(w:World)(hn:0≤n∧n≤999)(hk:0≤k∧k≤255):Calls prog 89 #[.int .i64 n,.int .i64 k] w fun e w'=>e=.returned (.int .i64 (Du n k))∧w=w':=by
 obtain⟨h1,h2⟩:=hn;obtain⟨h3,h4⟩:=hk;go_enter func89,ntmps89
 go_wp2_with fail
 all_goals go_ret
 all_goals exact⟨Ju (by unfold Du;omega),rfl⟩
theorem sT (p:Pt)(w:World)(hf:0≤p.first∧p.first≤999)(hs:0≤p.second∧p.second≤999):Calls prog 137 #[Kb p] w fun e w'=>e=.returned (.int .i64 (Qp p))∧An w w':=by
 obtain⟨f,r,o,s,wt⟩:=p;obtain⟨h1,h2⟩:=hf;obtain⟨h3,h4⟩:=hs;have hx:=An.alloc w (.cells #[f,r,o,s,wt] 34);obtain⟨z,hz⟩:∃z,Qp ⟨f,r,o,s,wt⟩=z:=⟨_,rfl⟩;rw[hz];have HZ:=A6 hz;have hm:IntKind.i64.wrap (f*s)=f*s:=by
  have a1:0≤f*s:=Int.mul_nonneg h1 h3;have a2:f*s≤999*999:=Int.mul_le_mul h2 h4 h3 (by decide)
  rw[IntWalk.i64_in _ (by omega)]
 clear hz;unfold Kb;go_enter func137,ntmps137
 go_wp2_with fail
 all_goals go_ret
 all_goals refine⟨Ju ?_,hx⟩
 all_goals (rw[←HZ.out];unfold Qp;simp_all)
 all_goals (clear hm;generalize f*s=m at *;omega)
theorem Mm (b0 b1 b2 b3 b4:Value)(h:Aq w g t #[a0,a1,a2,a3,a4]):Aq (((((w.setCell ⟨g,0,none⟩ b0).setCell ⟨g,1,none⟩ b1).setCell ⟨g,2,none⟩ b2).setCell ⟨g,3,none⟩ b3).setCell ⟨g,4,none⟩ b4) g t #[b0,b1,b2,b3,b4]:=by
 simpa using((((h.set_ 0 b0).set_ 1 b1).set_ 2 b2).set_ 3 b3).set_ 4 b4
theorem Aq.setNq (h:Aq w g t cs){p:Addr}(hp:p.block≠g)(u:Value):Aq (w.setCell p u) g t cs:=
 (Below.heap_setCell w p u g (fun e=>hp e.symm)).trans h
theorem D1 {g g' t:Nat}(b0 b1 b2 b3 b4:Value)(h:Aq w g' t cs)(ai:g≠g'):Aq (((((w.setCell ⟨g,0,none⟩ b0).setCell ⟨g,1,none⟩ b1).setCell ⟨g,2,none⟩ b2).setCell ⟨g,3,none⟩ b3).setCell ⟨g,4,none⟩ b4) g' t cs:=
 ((((h.setNq (p:=⟨g,0,none⟩) ai b0).setNq (p:=⟨g,1,none⟩) ai b1).setNq (p:=⟨g,2,none⟩) ai b2).setNq (p:=⟨g,3,none⟩) ai b3).setNq (p:=⟨g,4,none⟩) ai b4
theorem Do {w0 w:World}{g:Nat}(b0 b1 b2 b3 b4:Value)(h:An w0 w)(hg:w0.heap.size≤g):An w0 (((((w.setCell ⟨g,0,none⟩ b0).setCell ⟨g,1,none⟩ b1).setCell ⟨g,2,none⟩ b2).setCell ⟨g,3,none⟩ b3).setCell ⟨g,4,none⟩ b4):=
 ((((h.setCell (p:=⟨g,0,none⟩) hg b0).setCell (p:=⟨g,1,none⟩) hg b1).setCell (p:=⟨g,2,none⟩) hg b2).setCell (p:=⟨g,3,none⟩) hg b3).setCell (p:=⟨g,4,none⟩) hg b4
def J5q (w:World)(g:Nat)(a0 a1 a2 a3 a4:Value):Prop:=
 (w.cell? ⟨g,0,none⟩=some a0∧w.cell? ⟨g,1,none⟩=some a1∧w.cell? ⟨g,2,none⟩=some a2∧w.cell? ⟨g,3,none⟩=some a3∧w.cell? ⟨g,4,none⟩=some a4)∧
 (w.frozen? ⟨g,0,none⟩=false∧w.frozen? ⟨g,1,none⟩=false∧w.frozen? ⟨g,2,none⟩=false∧w.frozen? ⟨g,3,none⟩=false∧w.frozen? ⟨g,4,none⟩=false)
theorem Aq.five (h:Aq w g t #[a0,a1,a2,a3,a4]):J5q w g a0 a1 a2 a3 a4:=
 ⟨⟨h.cell 0,h.cell 1,h.cell 2,h.cell 3,h.cell 4⟩,⟨h.frozen 0,h.frozen 1,h.frozen 2,h.frozen 3,h.frozen 4⟩⟩
theorem Ma (p:Pt)(v a:Int)(w:World)(hf:0≤p.first∧p.first≤999)(hs:0≤p.second∧p.second≤999):
 Calls prog 90 #[Kb p,.int .i64 v,.int .i64 a] w fun e w'=>e=.returned (xN (Mp p v a))∧An w w':=by
 have HT:Hid (∀wq:World,Calls prog 137 #[Kb p] wq fun e w'=>e=.returned (.int .i64 (Qp p))∧An wq w'):=A6 fun wq=>sT p wq hf hs
 clear hf hs;obtain⟨z,hz⟩:∃z,Qp p=z:=⟨_,rfl⟩;rw[hz]at HT;unfold Mp;rw[hz];clear hz;obtain⟨f,r,o,s,wt⟩:=p;unfold Kb at*;unfold xN;simp only at*;have a9:=(Aq.new w 34 #[.int .i64 f,.int .i64 r,.int .i64 o,.int .i64 s,.int .i64 wt]).ext (An.alloc _ (.cells #[(0:Int),(0:Int),(0:Int),(0:Int),(0:Int)] 62));have al:=Aq.new (w.alloc (.cells #[f,r,o,s,wt] 34)) 62 #[.int .i64 0,.int .i64 0,.int .i64 0,.int .i64 0,.int .i64 0];rw[show(w.alloc (.cells #[f,r,o,s,wt] 34)).heap.size=w.heap.size+1 by simp]at al
 have hx:=(An.alloc w (.cells #[f,r,o,s,wt] 34)).to_alloc (.cells #[(0:Int),(0:Int),(0:Int),(0:Int),(0:Int)] 62);go_enter func90,ntmps90
 go_wp2_with fail
 revert a9 al hx
 generalize (w.alloc (.cells #[f,r,o,s,wt] 34)).alloc (.cells #[(0:Int),(0:Int),(0:Int),(0:Int),(0:Int)] 62)=W0;intro a9 al hx;have k0:=a9.cell 0;have k1:=a9.cell 1;have k2:=a9.cell 2;have k3:=a9.cell 3;have k4:=a9.cell 4;simp only[List.getElem?_toArray,List.getElem?_cons_zero,List.getElem?_cons_succ]at k0 k1 k2 k3 k4;have fj:=An.drew W0;have HW:Hid (∀w2,An W0 w2→J5q w2 w.heap.size (.int .i64 f) (.int .i64 r) (.int .i64 o) (.int .i64 s) (.int .i64 wt)):=A6 fun w2 he=>(a9.ext he).five
 have HY:Hid (∀w2,An W0 w2→Aq w2 (w.heap.size+1) 62 #[.int .i64 0,.int .i64 0,.int .i64 0,.int .i64 0,.int .i64 0]):=A6 fun w2 he=>al.ext he
 have HX:Hid (∀w2,An W0 w2→An w w2):=A6 fun w2 he=>hx.trans he
 clear a9 al hx;go_region_with (first
  |(
   go_at_call 137
   refine(HT.out _).mono ?_
   rintro e w2 ⟨rfl,au⟩;have ne:=fj.trans au;obtain⟨⟨j0,j1,j2,j3,j4⟩,_⟩:=HW.out w2 ne;obtain⟨⟨c0,c1,c2,c3,c4⟩,⟨f0,f1,f2,f3,f4⟩⟩:=(HY.out w2 ne).five))
 all_goals
  have hB:=Mm (.int .i64 z) (.int .i64 r) (.int .i64 o) (.int .i64 v) (.int .i64 a) (HY.out w2 ne);have dq:=Do (.int .i64 z) (.int .i64 r) (.int .i64 o) (.int .i64 v) (.int .i64 a) (HX.out w2 ne) (Nat.le_succ w.heap.size);obtain⟨⟨e0,e1,e2,e3,e4⟩,_⟩:=hB.five;clear c0 c1 c2 c3 c4 f0 f1 f2 f3 f4 j0 j1 j2 j3 j4 k0 k1 k2 k3 k4 hB;go_wp2_with fail
  refine bodyPost_ret (by simp[results,results90,go_sem,e0,e1,e2,e3,e4];try rfl) rfl ?_
  exact⟨rfl,dq⟩
end
