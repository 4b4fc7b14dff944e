/-
  Part ZKeyU.
-/
import Derived.Test.YtiahhfglhlgfiaaGreatZKeyT
set_option maxRecDepth 100000
set_option maxHeartbeats 16000000
set_option linter.unusedVariables false
set_option linter.unusedSimpArgs false
namespace Go.Proofs.YtiahhfglhlgfiaaGreat
open Go.RowKit
section
variable {f r o s v k:Int}
def Sd (t:Tk):Value:=.tuple #[Ja t.p,pR t.c,.int .i64 t.how,.int .i64 0]
theorem three {w:World}(a0 a1 a2 a3 a4 b0 b1 b2 b3 b4 c0 c1 c2 c3 c4:Value):
 An (((w.alloc (.cells #[a0,a1,a2,a3,a4] 36)).alloc (.cells #[b0,b1,b2,b3,b4] 36)).alloc (.cells #[c0,c1,c2,c3,c4] 87)) w.heap.size 36 #[a0,a1,a2,a3,a4]∧An (((w.alloc (.cells #[a0,a1,a2,a3,a4] 36)).alloc (.cells #[b0,b1,b2,b3,b4] 36)).alloc (.cells #[c0,c1,c2,c3,c4] 87)) (w.heap.size+1) 36 #[b0,b1,b2,b3,b4]∧An (((w.alloc (.cells #[a0,a1,a2,a3,a4] 36)).alloc (.cells #[b0,b1,b2,b3,b4] 36)).alloc (.cells #[c0,c1,c2,c3,c4] 87)) (w.heap.size+1+1) 87 #[c0,c1,c2,c3,c4]∧Al w (((w.alloc (.cells #[a0,a1,a2,a3,a4] 36)).alloc (.cells #[b0,b1,b2,b3,b4] 36)).alloc (.cells #[c0,c1,c2,c3,c4] 87)):=by
 have h0:=((An.new w 36 #[a0,a1,a2,a3,a4]).ext (Al.alloc _ (.cells #[b0,b1,b2,b3,b4] 36))).ext (Al.alloc _ (.cells #[c0,c1,c2,c3,c4] 87));have h1:=(An.new (w.alloc (.cells #[a0,a1,a2,a3,a4] 36)) 36 #[b0,b1,b2,b3,b4]).ext (Al.alloc _ (.cells #[c0,c1,c2,c3,c4] 87));have h2:=An.new ((w.alloc (.cells #[a0,a1,a2,a3,a4] 36)).alloc (.cells #[b0,b1,b2,b3,b4] 36)) 87 #[c0,c1,c2,c3,c4];rw[show(w.alloc (.cells #[a0,a1,a2,a3,a4] 36)).heap.size=w.heap.size+1 by simp]at h1
 rw[show((w.alloc (.cells #[a0,a1,a2,a3,a4] 36)).alloc (.cells #[b0,b1,b2,b3,b4] 36)).heap.size=w.heap.size+1+1 by simp]at h2
 exact⟨h0,h1,h2,((Al.alloc _ _).to_alloc _).to_alloc _⟩
theorem aH (hl:X2 k=true)(w:World):Calls Tryz.prog 50 #[Ja ⟨f,r,o,s,34⟩,.int .i64 k] w fun e w'=>e=.returned (Sd ⟨⟨f,k,o,s,0⟩,Cm.zero,1⟩)∧Al w w':=by
 have N0:=trivial;exact zH
theorem kC (hl:X2 k=false)(w:World):Calls Tryz.prog 50 #[Ja ⟨f,r,o,s,34⟩,.int .i64 k] w fun e w'=>e=.returned (Sd Er)∧Al w w':=by
 have N1:=trivial;exact zH
theorem Wt (hv:(v=102∨v=70∨v=116∨v=84∨v=114)∨(v=105∨v=97)∧(k=119∨k=87∨k=40∨k=41∨k=91∨k=93∨k=123∨k=125∨k=34∨k=39∨k=96))(hf:0≤f∧f≤999)(hs:0≤s∧s≤999)(w:World):Calls Tryz.prog 50 #[Ja ⟨f,r,o,s,v⟩,.int .i64 k] w fun e w'=>e=.returned (Sd ⟨Pt.zero,M9 ⟨f,r,o,s,v⟩ v k,2⟩)∧Al w w':=by
 obtain⟨hb0,hb1,hb2,hx⟩:=three (w:=w) (.int .i64 f) (.int .i64 r) (.int .i64 o) (.int .i64 s) (.int .i64 v) (.int .i64 0) (.int .i64 0) (.int .i64 0) (.int .i64 0) (.int .i64 0) (.int .i64 0) (.int .i64 0) (.int .i64 0) (.int .i64 0) (.int .i64 0);have HC:Hid (∀wq:World,_):=A4 fun(wq:World)=>Kk ⟨f,r,o,s,v⟩ v k wq hf hs
 unfold Ja pR at HC;simp only at HC;unfold M9 at HC;simp only at HC;obtain⟨Sc,ht⟩:∃Sc,Wy ⟨f,r,o,s,v⟩=Sc:=⟨_,rfl⟩;rw[ht]at HC;have HT:=A4 ht;clear ht hf hs;unfold Ja;simp only;obtain⟨u,hu⟩:∃u,u=v:=⟨_,rfl⟩;obtain⟨j,hj⟩:∃j,j=k:=⟨_,rfl⟩;rcases hv with(rfl|rfl|rfl|rfl|rfl)|⟨rfl|rfl,rfl|rfl|rfl|rfl|rfl|rfl|rfl|rfl|rfl|rfl|rfl⟩
 all_goals (
  go_enter Tryz.func50,Tryz.ntmps50
  go_wp2_with fail
  refine(HC.out _).mono ?_
  rintro e w1 ⟨rfl,he1⟩;have HB1:=hb1.ext he1;have HB2:=hb2.ext he1;have heW:=hx.trans he1;clear hb0 hb1 hb2 hx;have hB1:=Cq (.int .i64 Sc) (.int .i64 r) (.int .i64 o) (.int .i64 u) (.int .i64 j) (Lk (.int .i64 0) (.int .i64 0) (.int .i64 0) (.int .i64 0) (.int .i64 0) HB1) (show w.heap.size+1+1≠w.heap.size+1 by omega)
  have hB2:=Lk (.int .i64 Sc) (.int .i64 r) (.int .i64 o) (.int .i64 u) (.int .i64 j) (Cq (.int .i64 0) (.int .i64 0) (.int .i64 0) (.int .i64 0) (.int .i64 0) HB2 (show w.heap.size+1≠w.heap.size+1+1 by omega))
  have hend:=Df (.int .i64 Sc) (.int .i64 r) (.int .i64 o) (.int .i64 u) (.int .i64 j) (Df (.int .i64 0) (.int .i64 0) (.int .i64 0) (.int .i64 0) (.int .i64 0) heW (Nat.le_succ w.heap.size)) (show w.heap.size≤w.heap.size+1+1 by omega)
  subst hu hj;obtain⟨⟨e0,e1,e2,e3,e4⟩,_⟩:=hB1.five;obtain⟨⟨d0,d1,d2,d3,d4⟩,_⟩:=hB2.five;obtain⟨⟨c0,c1,c2,c3,c4⟩,⟨f0,f1,f2,f3,f4⟩⟩:=An.five HB1;obtain⟨⟨x0,x1,x2,x3,x4⟩,⟨y0,y1,y2,y3,y4⟩⟩:=An.five HB2;clear hB1 hB2;clear HB1 HB2 heW HC he1;go_wp2_with fail
  refine bodyPost_ret (by simp[results,Tryz.results50,go_sem,e0,e1,e2,e3,e4,d0,d1,d2,d3,d4];try rfl) rfl ?_
  exact⟨by rw[←HT.out];rfl,hend⟩)
theorem Zk (hv:v=105∨v=97)(hn:¬(k=119∨k=87∨k=40∨k=41∨k=91∨k=93∨k=123∨k=125∨k=34∨k=39∨k=96))(w:World):Calls Tryz.prog 50 #[Ja ⟨f,r,o,s,v⟩,.int .i64 k] w fun e w'=>e=.returned (Sd Er)∧Al w w':=by
 obtain⟨b119,b87,b40,b41,b91,b93,b123,b125,b34,b39,b96⟩:(k==119)=false∧(k==87)=false∧(k==40)=false∧(k==41)=false∧(k==91)=false∧(k==93)=false∧(k==123)=false∧(k==125)=false∧(k==34)=false∧(k==39)=false∧(k==96)=false:=by simp only[beq_eq_false_iff_ne,ne_eq];simpa only[not_or]using hn
 clear hn;unfold Ja;simp only;rcases hv with rfl|rfl
 all_goals (
  go_enter Tryz.func50,Tryz.ntmps50
  go_wp2_with fail
  obtain⟨_,hB1,hB2,hend⟩:=three (w:=w) (.int .i64 f) (.int .i64 r) (.int .i64 o) (.int .i64 s) (.int .i64 _) (.int .i64 0) (.int .i64 0) (.int .i64 0) (.int .i64 0) (.int .i64 0) (.int .i64 0) (.int .i64 0) (.int .i64 0) (.int .i64 0) (.int .i64 0);obtain⟨⟨e0,e1,e2,e3,e4⟩,_⟩:=hB1.five;obtain⟨⟨d0,d1,d2,d3,d4⟩,_⟩:=hB2.five;refine bodyPost_ret (by simp[results,Tryz.results50,go_sem,e0,e1,e2,e3,e4,d0,d1,d2,d3,d4];try rfl) rfl ?_
  exact⟨rfl,hend⟩)
theorem dW {p:Pt}{k:Int}(w:World)(h:F5 p=true)(hw:p.wait≠0):Calls Tryz.prog 50 #[Ja p,.int .i64 k] w fun e w'=>e=.returned (Sd (Fl p k))∧Al w w':=by
 obtain⟨f,r,o,s,wt⟩:=p;obtain⟨h1,h2,h3,h4,h5,hr,ho,hwt⟩:=Fu h;rcases eE hwt with rfl|rfl|rfl|rfl|rfl|rfl|rfl|rfl|rfl
 ·exact absurd rfl hw
 ·exact I53
 ·exact I53
 ·exact I53
 ·exact I53
 ·exact I53
 ·cases hl:X2 k with
  |true=>
   have e:Fl ⟨f,r,o,s,34⟩ k=⟨⟨f,k,o,s,0⟩,Cm.zero,1⟩:=by simp[Fl,hl]
   rw[e];exact aH hl w
  |false=>
   have e:Fl ⟨f,r,o,s,34⟩ k=Er:=by simp[Fl,hl]
   rw[e];exact kC hl w
 ·by_cases hk:k=119∨k=87∨k=40∨k=41∨k=91∨k=93∨k=123∨k=125∨k=34∨k=39∨k=96
  ·have e:Fl ⟨f,r,o,s,105⟩ k=⟨Pt.zero,M9 ⟨f,r,o,s,105⟩ 105 k,2⟩:=by rcases hk with rfl|rfl|rfl|rfl|rfl|rfl|rfl|rfl|rfl|rfl|rfl<;>rfl
   exact I113
  have e:Fl ⟨f,r,o,s,105⟩ k=Er:=by simp only[not_or]at hk;simp[Fl,tW,hk]
  rw[e];exact Zk (by simp) hk w
 ·by_cases hk:k=119∨k=87∨k=40∨k=41∨k=91∨k=93∨k=123∨k=125∨k=34∨k=39∨k=96
  ·have e:Fl ⟨f,r,o,s,97⟩ k=⟨Pt.zero,M9 ⟨f,r,o,s,97⟩ 97 k,2⟩:=by rcases hk with rfl|rfl|rfl|rfl|rfl|rfl|rfl|rfl|rfl|rfl|rfl<;>rfl
   exact I113
  have e:Fl ⟨f,r,o,s,97⟩ k=Er:=by simp only[not_or]at hk;simp[Fl,tW,hk]
  rw[e];exact Zk (by simp) hk w
end
