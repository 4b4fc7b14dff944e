/-
  Part ZKeyU.
-/
import Derived.Test.YtkaefdmhlmlhbaaGreatZKeyT
set_option maxRecDepth 100000
set_option maxHeartbeats 16000000
set_option linter.unusedVariables false
set_option linter.unusedSimpArgs false
namespace Go.Proofs.YtkaefdmhlmlhbaaGreat
open Go.RowKit
open _root_.Go.Proofs.Tryz
section
variable {f r o s v k:Int}
def Uc (t:Tk):Value:=.tuple #[Kb t.p,xN t.c,t.how,(0:Int)]
theorem three {w:World}(a0 a1 a2 a3 a4 b0 b1 b2 b3 b4 c0 c1 c2 c3 c4:Value):
 Aq (((w.alloc (.cells #[a0,a1,a2,a3,a4] 34)).alloc (.cells #[b0,b1,b2,b3,b4] 34)).alloc (.cells #[c0,c1,c2,c3,c4] 62)) w.heap.size 34 #[a0,a1,a2,a3,a4]∧Aq (((w.alloc (.cells #[a0,a1,a2,a3,a4] 34)).alloc (.cells #[b0,b1,b2,b3,b4] 34)).alloc (.cells #[c0,c1,c2,c3,c4] 62)) (w.heap.size+1) 34 #[b0,b1,b2,b3,b4]∧Aq (((w.alloc (.cells #[a0,a1,a2,a3,a4] 34)).alloc (.cells #[b0,b1,b2,b3,b4] 34)).alloc (.cells #[c0,c1,c2,c3,c4] 62)) (w.heap.size+1+1) 62 #[c0,c1,c2,c3,c4]∧An w (((w.alloc (.cells #[a0,a1,a2,a3,a4] 34)).alloc (.cells #[b0,b1,b2,b3,b4] 34)).alloc (.cells #[c0,c1,c2,c3,c4] 62)):=by
 have h0:=((Aq.new w 34 #[a0,a1,a2,a3,a4]).ext (An.alloc _ (.cells #[b0,b1,b2,b3,b4] 34))).ext (An.alloc _ (.cells #[c0,c1,c2,c3,c4] 62));have h1:=(Aq.new (w.alloc (.cells #[a0,a1,a2,a3,a4] 34)) 34 #[b0,b1,b2,b3,b4]).ext (An.alloc _ (.cells #[c0,c1,c2,c3,c4] 62));have h2:=Aq.new ((w.alloc (.cells #[a0,a1,a2,a3,a4] 34)).alloc (.cells #[b0,b1,b2,b3,b4] 34)) 62 #[c0,c1,c2,c3,c4];rw[show(w.alloc (.cells #[a0,a1,a2,a3,a4] 34)).heap.size=w.heap.size+1 by simp]at h1
 rw[show((w.alloc (.cells #[a0,a1,a2,a3,a4] 34)).alloc (.cells #[b0,b1,b2,b3,b4] 34)).heap.size=w.heap.size+1+1 by simp]at h2
 exact⟨h0,h1,h2,((An.alloc _ _).to_alloc _).to_alloc _⟩
theorem fD (hl:Qq k=true)(w:World):Calls prog 87 #[Kb ⟨f,r,o,s,34⟩,.int .i64 k] w fun e w'=>e=.returned (Uc ⟨⟨f,k,o,s,0⟩,Cm.zero,1⟩)∧An w w':=by
 have N0:=trivial;exact K40
theorem qM (hl:Qq k=false)(w:World):Calls prog 87 #[Kb ⟨f,r,o,s,34⟩,.int .i64 k] w fun e w'=>e=.returned (Uc Ep)∧An w w':=by
 have N1:=trivial;exact K40
theorem aF (hv:(v=102∨v=70∨v=116∨v=84∨v=114)∨(v=105∨v=97)∧(k=119∨k=87∨k=40∨k=41∨k=91∨k=93∨k=123∨k=125∨k=34∨k=39∨k=96))(hf:0≤f∧f≤999)(hs:0≤s∧s≤999)(w:World):Calls prog 87 #[Kb ⟨f,r,o,s,v⟩,.int .i64 k] w fun e w'=>e=.returned (Uc ⟨Pt.zero,Mp ⟨f,r,o,s,v⟩ v k,2⟩)∧An w w':=by
 obtain⟨a9,al,ak,hx⟩:=three (w:=w) (.int .i64 f) (.int .i64 r) (.int .i64 o) (.int .i64 s) (.int .i64 v) (.int .i64 0) (.int .i64 0) (.int .i64 0) (.int .i64 0) (.int .i64 0) (.int .i64 0) (.int .i64 0) (.int .i64 0) (.int .i64 0) (.int .i64 0);have HC:Hid (∀wq:World,_):=A6 fun(wq:World)=>Ma ⟨f,r,o,s,v⟩ v k wq hf hs
 unfold Kb xN at HC;simp only at HC;unfold Mp at HC;simp only at HC;obtain⟨Uu,ht⟩:∃Uu,Qp ⟨f,r,o,s,v⟩=Uu:=⟨_,rfl⟩;rw[ht]at HC;have HT:=A6 ht;clear ht hf hs;unfold Kb;simp only;obtain⟨u,hu⟩:∃u,u=v:=⟨_,rfl⟩;obtain⟨j,hj⟩:∃j,j=k:=⟨_,rfl⟩;rcases hv with(rfl|rfl|rfl|rfl|rfl)|⟨rfl|rfl,rfl|rfl|rfl|rfl|rfl|rfl|rfl|rfl|rfl|rfl|rfl⟩
 all_goals (
  go_enter func87,ntmps87
  go_wp2_with fail
  refine(HC.out _).mono ?_
  rintro e w1 ⟨rfl,aj⟩;have dz:=al.ext aj;have eh:=ak.ext aj;have vr:=hx.trans aj;clear a9 al ak hx;have ng:=D1 (.int .i64 Uu) (.int .i64 r) (.int .i64 o) (.int .i64 u) (.int .i64 j) (Mm (.int .i64 0) (.int .i64 0) (.int .i64 0) (.int .i64 0) (.int .i64 0) dz) (show w.heap.size+1+1≠w.heap.size+1 by omega)
  have ko:=Mm (.int .i64 Uu) (.int .i64 r) (.int .i64 o) (.int .i64 u) (.int .i64 j) (D1 (.int .i64 0) (.int .i64 0) (.int .i64 0) (.int .i64 0) (.int .i64 0) eh (show w.heap.size+1≠w.heap.size+1+1 by omega))
  have dq:=Do (.int .i64 Uu) (.int .i64 r) (.int .i64 o) (.int .i64 u) (.int .i64 j) (Do (.int .i64 0) (.int .i64 0) (.int .i64 0) (.int .i64 0) (.int .i64 0) vr (Nat.le_succ w.heap.size)) (show w.heap.size≤w.heap.size+1+1 by omega)
  subst hu hj;obtain⟨⟨e0,e1,e2,e3,e4⟩,_⟩:=ng.five;obtain⟨⟨d0,d1,d2,d3,d4⟩,_⟩:=ko.five;obtain⟨⟨c0,c1,c2,c3,c4⟩,⟨f0,f1,f2,f3,f4⟩⟩:=Aq.five dz;obtain⟨⟨x0,x1,x2,x3,x4⟩,⟨y0,y1,y2,y3,y4⟩⟩:=Aq.five eh;clear ng ko;clear dz eh vr HC aj;go_wp2_with fail
  refine bodyPost_ret (by simp[results,results87,go_sem,e0,e1,e2,e3,e4,d0,d1,d2,d3,d4];try rfl) rfl ?_
  exact⟨by rw[←HT.out];rfl,dq⟩)
theorem dV (hv:v=105∨v=97)(hn:¬(k=119∨k=87∨k=40∨k=41∨k=91∨k=93∨k=123∨k=125∨k=34∨k=39∨k=96))(w:World):Calls prog 87 #[Kb ⟨f,r,o,s,v⟩,.int .i64 k] w fun e w'=>e=.returned (Uc Ep)∧An w w':=by
 obtain⟨b119,b87,b40,b41,b91,b93,b123,b125,b34,b39,b96⟩:(k==119)=false∧(k==87)=false∧(k==40)=false∧(k==41)=false∧(k==91)=false∧(k==93)=false∧(k==123)=false∧(k==125)=false∧(k==34)=false∧(k==39)=false∧(k==96)=false:=by simp only[beq_eq_false_iff_ne,ne_eq];simpa only[not_or]using hn
 clear hn;unfold Kb;simp only;rcases hv with rfl|rfl
 all_goals (
  go_enter func87,ntmps87
  go_wp2_with fail
  obtain⟨_,ng,ko,dq⟩:=three (w:=w) (.int .i64 f) (.int .i64 r) (.int .i64 o) (.int .i64 s) (.int .i64 _) (.int .i64 0) (.int .i64 0) (.int .i64 0) (.int .i64 0) (.int .i64 0) (.int .i64 0) (.int .i64 0) (.int .i64 0) (.int .i64 0) (.int .i64 0);obtain⟨⟨e0,e1,e2,e3,e4⟩,_⟩:=ng.five;obtain⟨⟨d0,d1,d2,d3,d4⟩,_⟩:=ko.five;refine bodyPost_ret (by simp[results,results87,go_sem,e0,e1,e2,e3,e4,d0,d1,d2,d3,d4];try rfl) rfl ?_
  exact⟨rfl,dq⟩)
theorem kC {p:Pt}{k:Int}(w:World)(h:Ew p=true)(hw:p.wait≠0):Calls prog 87 #[Kb p,.int .i64 k] w fun e w'=>e=.returned (Uc (Fr p k))∧An w w':=by
 obtain⟨f,r,o,s,wt⟩:=p;obtain⟨h1,h2,h3,h4,h5,hr,ho,kj⟩:=Gf h;rcases kM kj with rfl|rfl|rfl|rfl|rfl|rfl|rfl|rfl|rfl
 ·exact absurd rfl hw
 ·exact I56
 ·exact I56
 ·exact I56
 ·exact I56
 ·exact I56
 ·cases hl:Qq k with
  |true=>
   have e:Fr ⟨f,r,o,s,34⟩ k=⟨⟨f,k,o,s,0⟩,Cm.zero,1⟩:=by simp[Fr,hl]
   rw[e];exact fD hl w
  |false=>
   have e:Fr ⟨f,r,o,s,34⟩ k=Ep:=by simp[Fr,hl]
   rw[e];exact qM hl w
 ·by_cases hk:k=119∨k=87∨k=40∨k=41∨k=91∨k=93∨k=123∨k=125∨k=34∨k=39∨k=96
  ·have e:Fr ⟨f,r,o,s,105⟩ k=⟨Pt.zero,Mp ⟨f,r,o,s,105⟩ 105 k,2⟩:=by rcases hk with rfl|rfl|rfl|rfl|rfl|rfl|rfl|rfl|rfl|rfl|rfl<;>rfl
   exact I125
  have e:Fr ⟨f,r,o,s,105⟩ k=Ep:=by simp only[not_or]at hk;simp[Fr,qZ,hk]
  rw[e];exact dV (by simp) hk w
 ·by_cases hk:k=119∨k=87∨k=40∨k=41∨k=91∨k=93∨k=123∨k=125∨k=34∨k=39∨k=96
  ·have e:Fr ⟨f,r,o,s,97⟩ k=⟨Pt.zero,Mp ⟨f,r,o,s,97⟩ 97 k,2⟩:=by rcases hk with rfl|rfl|rfl|rfl|rfl|rfl|rfl|rfl|rfl|rfl|rfl<;>rfl
   exact I125
  have e:Fr ⟨f,r,o,s,97⟩ k=Ep:=by simp only[not_or]at hk;simp[Fr,qZ,hk]
  rw[e];exact dV (by simp) hk w
end
