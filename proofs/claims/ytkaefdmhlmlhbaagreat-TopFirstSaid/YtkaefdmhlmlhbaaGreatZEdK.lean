/-
  Part ZEdK.
-/
import Derived.Test.YtkaefdmhlmlhbaaGreatZRegA
import Derived.Test.YtkaefdmhlmlhbaaGreatZTk
import Derived.Test.YtkaefdmhlmlhbaaGreatZConc
import Derived.Deep.RegionLaw
import Derived.Deep.RegionHeld3
import Derived.Deep.DeepCutAuto
import Derived.Deep.CutRange
import Derived.Laws.Rows
import Derived.IntWalk
set_option maxRecDepth 100000
set_option maxHeartbeats 16000000
set_option linter.unusedVariables false
set_option linter.unusedSimpArgs false
namespace Go.Proofs.YtkaefdmhlmlhbaaGreat
open Go.RowKit
open _root_.Go.Proofs.Tryz
open Act renaming put→Ao
open AllReadyH renaming cons→Ai,nil→Am
open _root_.List renaming getElem?_cons_succ→Ag,getElem?_cons_zero→Af,getElem?_toArray→Ah,getElem_cons_succ→Ab,getElem_cons_zero→Aa,getElem_toArray→Ac,setIfInBounds_toArray→A7,set_cons_succ→Ae,set_cons_zero→Ad
open _root_.Nat renaming le_refl→Aj,le_trans→Ar
open World renaming setCell→Bh
section
variable {A:Option Addr}{w:World}{n c a g t:Nat}{cs:Array Value}{k md:Int}
theorem Lw {a b:Value}(h:Aq w g t #[a,b]):w.cell? ⟨g,0,none⟩=some a∧w.cell? ⟨g,1,none⟩=some b:=⟨h.cell 0,h.cell 1⟩
theorem Se (h:Aq w g t cs):w.frozen? ⟨g,0,none⟩=false∧w.frozen? ⟨g,1,none⟩=false:=⟨h.frozen 0,h.frozen 1⟩
theorem oK:(prog.info? 32).map (·.size)=some 2:=by kernel_rfl
theorem Ql (h:cs.size=2):(prog.info? 32).map (·.size)=some cs.size:=by rw[h];exact oK
theorem Gv {P:Program}{fn:Func}{p q:Tmp}{ty:TypeId}(h:fn.results=#[.cell p ty,.tmp q])(tmps:Array Value)(w:World)(g:Nat)(t:TypeId)(cs:Array Value)(fr:Nat×Nat)(d:TypeDesc)(v:Value)
 (hp:tmps.getD p undef=.pointer (some ⟨g,0,none⟩)) (hq:tmps.getD q undef=v) (hg:w.heap[g]? = some (.cells cs t fr))
 (hu:P.underlying ty=some d) (hd:(match d with|.struct _|.array _ _=>true|_=>false)=true) (hi:(P.info? ty).map (·.size)=some cs.size):
 (results fn tmps).run P w=.ok (.tuple #[.agg cs,v]) w:=by
 have ji:tmps[p]?.getD undef=.pointer (some ⟨g,0,none⟩):=by simpa using hp
 exact I40
def xR (w:World)(g:Nat)(a b:Value):World:=(w.setCell ⟨g,0,none⟩ a).setCell ⟨g,1,none⟩ b
theorem Qe {a' b':Value}(h:Aq w g t #[a',b'])(a b:Value):Aq (xR w g a b) g t #[a,b]:=(h.set_ 0 a).set_ 1 b
theorem Qd {w0 w:World}{g:Nat}(h:An w0 w)(hg:w0.heap.size≤g)(a b:Value):An w0 (xR w g a b):=(h.setCell (p:=⟨g,0,none⟩) hg a).setCell (p:=⟨g,1,none⟩) hg b
theorem V8 {g base e' z n cc:Nat}{xs:List Value}(h:Bd w base e' z A n cc xs)(hg:g<base)(a b:Value):Bd (xR w g a b) base e' z A n cc xs:=(h.setCell (p:=⟨g,0,none⟩) hg a).setCell (p:=⟨g,1,none⟩) hg b
def kG (l':List Int)(a':Nat)(w:World)(e:Ending)(w':World):Prop:=
 An w w'∧∃B n d,e=.returned (.tuple #[.agg #[.slice B n d,a'],(0:Int)])∧Ba w' w.heap.size B n d l'
def J2g (w:World)(e:Ending)(w':World):Prop:=An w w'∧∃x:Int,x≠0∧e=.returned (.tuple #[.agg #[(),(0:Int)],x])
def J2m (md:Int)(l:List Int)(n a:Nat)(k:Int)(f t:Nat)(T:List Int):Prop:=
 ((32≤k∧k≠127)∧md=1∧n<200∧f=a∧t=a∧T=[k])∨
 ((32≤k∧k≠127)∧md=2∧n<200∧a=n∧f=a∧t=a∧T=[k])∨
 ((32≤k∧k≠127)∧md=2∧a<n∧f=a∧t=a+1∧T=[k])∨
 (k=21∧0<a∧md=1∧f=0∧t=a∧T=[])∨
 (k=21∧0<a∧md=2∧f=0∧t=a∧T=[])∨
 (k=8∧a=f+1∧md=1∧t=a∧T=[])∨
 (k=127∧a=f+1∧md=1∧t=a∧T=[])∨
 (k=23∧0<a∧md=1∧f=Gr l a false∧t=a∧T=[])∨
 (k=23∧0<a∧md=2∧f=Gr l a false∧t=a∧T=[])
theorem zW {n c a f t:Nat}{l T:List Int}(hl:Bj w A n c l)(hA:A=none→c=0)(hn:n≤200)(ha:a≤n)(hc:J2m md l n a k f t T):
 Calls prog 85 #[.agg #[.slice A n c,a],.int .i64 md,.int .i64 k] w (kG (l.take f++T++l.drop t) (f+T.length) w):=by
 have HL:=A6 hl;have ab:=A6 hl.len;have aw:=hl.ncap;have aq:=hl.nmax;unfold maxLen at aq;have bi:Gr l a false≤a:=Ni (by rw[ab.out];exact ha)
 have gi:f≤n∧t≤n∧f≤t:=by rcases hc with h|h|h|h|h|h|h|h|h<;>omega
 have hT:T.length≤1:=by rcases hc with⟨_,_,_,_,_,rfl⟩|⟨_,_,_,_,_,_,rfl⟩|⟨_,_,_,_,_,rfl⟩|⟨_,_,_,_,_,rfl⟩|⟨_,_,_,_,_,rfl⟩|⟨_,_,_,_,rfl⟩|⟨_,_,_,_,rfl⟩|⟨_,_,_,_,_,rfl⟩|⟨_,_,_,_,_,rfl⟩<;>simp
 obtain⟨W,hW,hx,hz,b3,b6⟩:∃W,W=(w.alloc (.cells #[.slice A n c,a] 32)).alloc (.cells #[(),(0:Int)] 32)∧An w W∧W.heap.size=w.heap.size+2∧
  Aq W w.heap.size 32 #[.slice A n c,.int .i64 (a:Int)]∧Aq W (w.heap.size+1) 32 #[.slice none 0 0,.int .i64 0]:=
  ⟨_,rfl,(An.alloc _ _).to_alloc _,by simp,(Aq.new w _ _).ext (An.alloc _ _),by
   have h:=Aq.new (w.alloc (.cells #[.slice A n c,a] 32)) 32 #[.slice none 0 0,.int .i64 0]
   rwa[World.size_alloc]at h⟩
 have t1:decide ((200:Int)<(n:Int))=false:=by simp;omega
 have t3:((a:Int)<0)=False:=by simp
 have t4:decide (n<a)=false:=by simp;omega
 have t5:decide ((n:Int)<(a:Int))=false:=by simp;omega
 have UN:Hid (∀wx,An w wx→Calls prog 133 #[.slice A n c,.int .i64 (a:Int),.bool false] wx fun e w'=>e=.returned (.tuple #[(Gr l a false:Int),(0:Int)])∧An wx w'):=A6 fun wx he=>cF (k:=a) (big:=false) (hl.ext he) (by omega) ha
 obtain⟨c0,c1⟩:=Lw b3;generalize hM:l.take f++T++l.drop t=M;have HC:Hid (∀(wq:World) (S TA:Option Addr) (tc:Nat),An w wq→Bj wq TA T.length tc T→Rd wq 1 S 3 3 [.slice A f c,.slice TA T.length tc,.slice (if c=t then A else Option.map (fun x=>x.add t) A) (n-t) (c-t)]→Calls prog 134 #[.slice S 3 3] wq fun e w'=>∃u,e=.returned u∧(∃B m d,u=.slice B m d∧Ba w' wq.heap.size B m d M)∧An wq w'):=A6 (fun wq S TA tc he hI hS=>by
  have hl:=HL.out.ext he;have h1:=Zx hS (Qw.three (hl.front gi.1) hI (hl.cut gi.2.1 (Aj n))) rfl (by
   have:=ab.out;simp;omega)
  refine h1.mono fun e w' ⟨B,m,d,h2,h3,h4⟩=>⟨_,h2,⟨B,m,d,rfl,?_⟩,h4⟩
  have:(l.take f::T::[(l.drop t).take (n-t)]).flatten=l.take f++T++l.drop t:=by
   have hh:(l.drop t).take (n-t)=l.drop t:=List.take_of_length_le (by rw[List.length_drop,ab.out];exact Aj _)
   rw[hh];simp
  rw[←hM,←this];exact h3)
 clear hM;have y7:f≤c:=by omega
 have y8:t≤c:=by omega
 clear hl bi;have JF:=A6 gi;clear gi;rcases hc with⟨⟨h1,h2⟩,rfl,h3,hf,ht,rfl⟩|⟨⟨h1,h2⟩,rfl,h3,LH,hf,ht,rfl⟩|⟨⟨h1,h2⟩,rfl,h3,hf,ht,rfl⟩|⟨rfl,h3,rfl,hf,ht,rfl⟩|⟨rfl,h3,rfl,hf,ht,rfl⟩|⟨rfl,hf,rfl,ht,rfl⟩|⟨rfl,hf,rfl,ht,rfl⟩|⟨rfl,h3,rfl,hf,ht,rfl⟩|⟨rfl,h3,rfl,hf,ht,rfl⟩
 all_goals
  first
   |(have E9:Hid (((a:Int)-1)=(f:Int)):=A6 (by omega);have E10:Hid ((a:Int)=(t:Int)):=A6 (by omega))
   |(have E9:Hid ((a:Int)=(f:Int)):=A6 (by omega);have E10:Hid ((a:Int)=(t:Int)):=A6 (by omega))
   |(have E9:Hid ((a:Int)=(f:Int)):=A6 (by omega);have E10:Hid (((a:Int)+1)=(t:Int)):=A6 (by omega))
   |(have E9:Hid ((0:Int)=(f:Int)):=A6 (by omega);have E10:Hid ((a:Int)=(t:Int)):=A6 (by omega))
   |(have E9:Hid ((Gr l a false:Int)=(f:Int)):=A6 (by omega);have E10:Hid ((a:Int)=(t:Int)):=A6 (by omega))
  try(have t6:(k !=127)=true:=by simpa using h2)
  try(have t2:((n:Int)==200)=false:=by simp;omega)
  try(have t7:((a:Int)==0)=false:=by simp;omega)
  try(have t8:decide (a<n)=false:=by have:=LH;simp;omega)
  try clear LH
  clear hf ht;go_enter func85,ntmps85
  go_upto_region 1 with fail
  rw[←hW];clear hW;go_upto_region 6 with fail
  go_quiet (fail)
  have am:An w (W.drewN nq):=hx.trans (An.drewN W nq);have om:=b3.ext (An.drewN W nq);have fb:=b6.ext (An.drewN W nq);have CY:w.heap.size+2≤(W.drewN nq).heap.size:=Nat.le_of_eq hz.symm;clear c0 c1 b3 b6 hx hz;generalize W.drewN nq=V0 at*;obtain⟨e0,e1⟩:=Lw om
 all_goals
  first
   |(
    go_wp2_with fail
    refine(UN.out _ am).mono ?_
    rintro e V ⟨rfl,hE⟩;replace am:=am.trans hE;replace om:=om.ext hE;replace fb:=fb.ext hE;replace CY:=Ar CY hE.hsize;clear e0 e1 hE UN;obtain⟨e0,e1⟩:=Lw om;go_upto_region 25 with fail)
   |(
    go_upto_region 25 with fail
    clear UN;generalize V0=V at *)
 all_goals
  clear e0 e1;have gi:=JF.out;have hft1:=gi.1;have hft2:=gi.2.1;clear gi
 iterate 3
  focus
   have hE:=An.alloc V (.cells #[k] 3);have hI:Bj (V.alloc (.cells #[k] 3)) (some ⟨V,0,none⟩) 1 1 [k]:=Bj.litAt V 3 [k] rfl rfl (by omega)
   replace am:=am.trans hE;replace om:=om.ext hE;replace fb:=fb.ext hE;replace CY:=Ar CY hE.hsize;clear hE;generalize (some ⟨V,0,none⟩:Option Addr)=TA at*;generalize World.alloc _ _=V3 at*;refine wp_region_held_drew (S:=fun w'=>An w w'∧Aq w' w.heap.size 32 #[.slice A n c,.int .i64 (a:Int)]) (by kernel_rfl) ⟨am.to_drew,om⟩ (fun hS=>?_)
   refine Bf (i:=0) (v:=some w.heap.size) rfl hS ?_
   refine Ga (i:=1) (v:=(.slice A n c)) rfl (fun w' ag=>by have q0:=ag.2.cell 0;simp only[Ah,Af,Ag]at q0;go_simp) hS ?_
   refine Ga (i:=2) (v:=(.int .i64 (f:Int))) rfl (fun w' ag=>by have e9:=E9.out;go_simp) hS ?_
   refine Bf (i:=3) (v:=(.slice A f c)) rfl hS ?_
   refine Bf (i:=4) (v:=(.slice TA 1 1)) rfl hS ?_
   refine Bf (i:=5) (v:=some w.heap.size) rfl hS ?_
   refine Ga (i:=6) (v:=(.slice A n c)) rfl (fun w' ag=>by have q0:=ag.2.cell 0;simp only[Ah,Af,Ag]at q0;go_simp) hS ?_
   refine Ga (i:=7) (v:=(.int .i64 (t:Int))) rfl (fun w' ag=>by have e10:=E10.out;go_simp) hS ?_
   refine Bf (i:=8) (v:=(.slice (if c=t then A else Option.map (fun x=>x.add t) A) (n-t) (c-t))) rfl hS ?_
   refine Ga (i:=11) (v:=(.int .i64 (f:Int))) rfl (fun w' ag=>by have e9:=E9.out;go_simp) hS ?_
   refine Bf (i:=12) (v:=(.slice TA 1 1)) rfl hS ?_
   refine Bf (i:=13) (v:=(1:Int)) rfl hS ?_
   refine Ga (i:=14) (v:=(.int .i64 ((f:Int)+1))) rfl (fun w' ag=>by have lg:IntKind.i64.wrap ((f:Int)+1)=(f:Int)+1:=IntWalk.i64_in _ (by omega);go_simp) hS ?_
   have b6d:Aq V3.drew (w.heap.size+1) 32 #[.slice none 0 0,.int .i64 0]:=fb;have AK:Bj V3.drew TA 1 1 [k]:=hI;have LI:w.heap.size+2≤V3.drew.heap.size:=CY;clear fb hI am om CY;generalize V3.drew=cur at*;refine wpAnyH_ready (rs:=[9]) (by decide +kernel) (by simp) (Ai rfl (fun K hK=>?_) Am)
   go_simp
   have hE:=An.alloc cur (.cells #[.slice A f c,.slice TA 1 1,.slice (if c=t then A else Option.map (fun x=>x.add t) A) (n-t) (c-t)] 25)
   have hR:=Rd.litAtConc cur 25 [.slice A f c,.slice TA 1 1,.slice (if c=t then A else Option.map (fun x=>x.add t) A) (n-t) (c-t)] rfl rfl (show(3:Nat)≤1000 by omega)
   refine hK.out _ _ ⟨hS.1.trans hE,hS.2.ext hE⟩ (fun ao=>?_)
   clear hK K;replace hS:=ao;replace AK:=AK.ext hE;replace b6d:=b6d.ext hE;replace LI:=Ar LI hE.hsize;clear ao hE;generalize World.alloc _ _=cu2 at*
   try simp only[Ac,Aa,Ab,Ao,A7,Ad,Ae]
   refine wpAnyH_ready (rs:=[10]) (by decide +kernel) (by simp) (Ai rfl (fun K hK=>?_) Am)
   refine Cl rfl 134 #[.slice (some ⟨cur,0,none⟩) 3 3] rfl (by kernel_rfl) (fun u w'=>∃B m d,u=.slice B m d∧Ba w' cu2.heap.size B m d M) (HC.out _ _ _ _ hS.1 AK hR) ?_
   rintro u w3 ⟨B,m,d,rfl,ho⟩ hE;refine hK.out _ _ ⟨hS.1.trans hE,hS.2.ext hE⟩ (fun ao=>?_)
   clear hK K;replace hS:=ao;replace b6d:=b6d.ext hE;clear ao hE AK hR
   try simp only[Ac,Aa,Ab,Ao,A7,Ad,Ae]
   refine Bf (i:=15) (v:=(.agg #[.slice B m d,.int .i64 ((f:Int)+1)])) rfl hS ?_
   obtain⟨q0,q1⟩:=Lw b6d;obtain⟨f0,f1⟩:=Se b6d;refine wpAnyH_ready (rs:=[16]) (by decide +kernel) (by simp) (Ai rfl (fun K hK=>?_) Am)
   go_simp
   refine hK.out _ _ ⟨Qd hS.1 (show w.heap.size≤w.heap.size+1 by omega) _ _,Bn (g':=w.heap.size+1) (Bn (g':=w.heap.size+1) hS.2 (by omega) 0 _) (by omega) 1 _⟩ (fun ao=>?_)
   have HF:=A6 (Qe b6d (.slice B m d) (.int .i64 ((f:Int)+1)));have HO:=A6 (V8 ho (show w.heap.size+1<cu2.heap.size by omega) (.slice B m d) (.int .i64 ((f:Int)+1)))
   unfold xR at HF HO;clear hK K q0 q1 f0 f1 b6d ho hS;generalize Bh (Bh _ _ _) _ _=W9 at*
   try simp only[Ac,Aa,Ab,Ao,A7,Ad,Ae]
   refine wpAnyH_ready (rs:=[17]) (by decide +kernel) (by simp) (Ai rfl (fun K hK=>?_) Am)
   go_simp
   refine hK.out _ _ ao (fun _=>?_)
   clear hK K;refine wpAnyH_done (by kernel_rfl) ?_ _
   have HX:=A6 ao.1;clear ao;go_wp2_with fail
   all_goals
    refine bodyPost_ret (v:=.tuple #[.agg #[.slice B m d,.int .i64 ((f:Int)+1)],(0:Int)]) ?_ rfl ⟨HX.out,B,m,d,rfl,Bd.lower HO.out (by omega)⟩
    exact I67
 all_goals
  have hI:=Bj.none_ V;refine wp_region_held_drew (S:=fun w'=>An w w'∧Aq w' w.heap.size 32 #[.slice A n c,.int .i64 (a:Int)]) (by kernel_rfl) ⟨am.to_drew,om⟩ (fun hS=>?_)
  refine Bf (i:=0) (v:=some w.heap.size) rfl hS ?_
  refine Ga (i:=1) (v:=(.slice A n c)) rfl (fun w' ag=>by have q0:=ag.2.cell 0;simp only[Ah,Af,Ag]at q0;go_simp) hS ?_
  refine Ga (i:=2) (v:=(.int .i64 (f:Int))) rfl (fun w' ag=>by have e9:=E9.out;go_simp) hS ?_
  refine Bf (i:=3) (v:=(.slice A f c)) rfl hS ?_
  refine Bf (i:=4) (v:=()) rfl hS ?_
  refine Bf (i:=5) (v:=some w.heap.size) rfl hS ?_
  refine Ga (i:=6) (v:=(.slice A n c)) rfl (fun w' ag=>by have q0:=ag.2.cell 0;simp only[Ah,Af,Ag]at q0;go_simp) hS ?_
  refine Ga (i:=7) (v:=(.int .i64 (t:Int))) rfl (fun w' ag=>by have e10:=E10.out;go_simp) hS ?_
  refine Bf (i:=8) (v:=(.slice (if c=t then A else Option.map (fun x=>x.add t) A) (n-t) (c-t))) rfl hS ?_
  refine Ga (i:=11) (v:=(.int .i64 (f:Int))) rfl (fun w' ag=>by have e9:=E9.out;go_simp) hS ?_
  refine Bf (i:=12) (v:=()) rfl hS ?_
  refine Bf (i:=13) (v:=(0:Int)) rfl hS ?_
  refine Ga (i:=14) (v:=(.int .i64 (f:Int))) rfl (fun w' ag=>by have lg:IntKind.i64.wrap (f:Int)=(f:Int):=IntWalk.i64_in _ (by omega);go_simp) hS ?_
  have b6d:Aq V.drew (w.heap.size+1) 32 #[.slice none 0 0,.int .i64 0]:=fb;have AK:Bj V.drew none 0 0 []:=hI;have LI:w.heap.size+2≤V.drew.heap.size:=CY;clear fb hI am om CY;generalize V.drew=cur at*;refine wpAnyH_ready (rs:=[9]) (by decide +kernel) (by simp) (Ai rfl (fun K hK=>?_) Am)
  go_simp
  have hE:=An.alloc cur (.cells #[.slice A f c,(),.slice (if c=t then A else Option.map (fun x=>x.add t) A) (n-t) (c-t)] 25)
  have hR:=Rd.litAtConc cur 25 [.slice A f c,.slice none 0 0,.slice (if c=t then A else Option.map (fun x=>x.add t) A) (n-t) (c-t)] rfl rfl (show(3:Nat)≤1000 by omega)
  refine hK.out _ _ ⟨hS.1.trans hE,hS.2.ext hE⟩ (fun ao=>?_)
  clear hK K;replace hS:=ao;replace AK:=AK.ext hE;replace b6d:=b6d.ext hE;replace LI:=Ar LI hE.hsize;clear ao hE;generalize World.alloc _ _=cu2 at*
  try simp only[Ac,Aa,Ab,Ao,A7,Ad,Ae]
  refine wpAnyH_ready (rs:=[10]) (by decide +kernel) (by simp) (Ai rfl (fun K hK=>?_) Am)
  refine Cl rfl 134 #[.slice (some ⟨cur,0,none⟩) 3 3] rfl (by kernel_rfl) (fun u w'=>∃B m d,u=.slice B m d∧Ba w' cu2.heap.size B m d M) (HC.out _ _ _ _ hS.1 AK hR) ?_
  rintro u w3 ⟨B,m,d,rfl,ho⟩ hE;refine hK.out _ _ ⟨hS.1.trans hE,hS.2.ext hE⟩ (fun ao=>?_)
  clear hK K;replace hS:=ao;replace b6d:=b6d.ext hE;clear ao hE AK hR
  try simp only[Ac,Aa,Ab,Ao,A7,Ad,Ae]
  refine Bf (i:=15) (v:=(.agg #[.slice B m d,f])) rfl hS ?_
  obtain⟨q0,q1⟩:=Lw b6d;obtain⟨f0,f1⟩:=Se b6d;refine wpAnyH_ready (rs:=[16]) (by decide +kernel) (by simp) (Ai rfl (fun K hK=>?_) Am)
  go_simp
  refine hK.out _ _ ⟨Qd hS.1 (show w.heap.size≤w.heap.size+1 by omega) _ _,Bn (g':=w.heap.size+1) (Bn (g':=w.heap.size+1) hS.2 (by omega) 0 _) (by omega) 1 _⟩ (fun ao=>?_)
  have HF:=A6 (Qe b6d (.slice B m d) (.int .i64 (f:Int)));have HO:=A6 (V8 ho (show w.heap.size+1<cu2.heap.size by omega) (.slice B m d) (.int .i64 (f:Int)))
  unfold xR at HF HO;clear hK K q0 q1 f0 f1 b6d ho hS;generalize Bh (Bh _ _ _) _ _=W9 at*
  try simp only[Ac,Aa,Ab,Ao,A7,Ad,Ae]
  refine wpAnyH_ready (rs:=[17]) (by decide +kernel) (by simp) (Ai rfl (fun K hK=>?_) Am)
  go_simp
  refine hK.out _ _ ao (fun _=>?_)
  clear hK K;refine wpAnyH_done (by kernel_rfl) ?_ _
  have HX:=A6 ao.1;clear ao;go_wp2_with fail
  all_goals
   refine bodyPost_ret (v:=.tuple #[.agg #[.slice B m d,f],(0:Int)]) ?_ rfl ⟨HX.out,B,m,d,rfl,Bd.lower HO.out (by omega)⟩
   exact I67
def NoC (md:Int)(n a:Nat)(k:Int):Prop:=
 ((32≤k∧k≠127)∧md=1∧n=200)∨((32≤k∧k≠127)∧md=2∧n=200∧a=n)∨
 (((k<32∧k≠8∧k≠21)∧k≠23)∧md=1)∨(((k<32∧k≠8∧k≠21)∧k≠23)∧md=2)∨
 (k=8∧a=0∧md=1)∨(k=8∧a=0∧md=2)∨(k=127∧a=0∧md=1)∨(k=127∧a=0∧md=2)∨
 (k=21∧a=0∧md=1)∨(k=21∧a=0∧md=2)∨(k=23∧a=0∧md=1)∨(k=23∧a=0∧md=2)
theorem J4n (aw:n≤c)(aq:c≤maxLen)(hn:n≤200)(ha:a≤n)(hc:NoC md n a k):
 Calls prog 85 #[.agg #[.slice A n c,a],.int .i64 md,.int .i64 k] w (J2g w):=by
 have N0:=trivial;exact K28
theorem vD {l:List Int}{k:Int}(hl:Bj w A n c l)(hA:A=none→c=0)(hn:n≤200)(ha:a≤n)(h0:0<a)(hk:k=8∨k=127):
 Calls prog 85 #[.agg #[.slice A n c,a],.int .i64 2,.int .i64 k] w (kG l (a-1) w):=by
 have N1:=trivial;exact K28
def Gy (md:Int)(l:List Int)(a:Nat)(k:Int):Option (List Int×Nat):=
 if 32≤k∧k≠127 then
  if md=2∧a<l.length then some (l.take a++[k]++l.drop (a+1),a+1)
  else if l.length=200 then none else some (l.take a++[k]++l.drop a,a+1)
 else if k≠8∧k≠127∧k≠21∧k≠23 then none
 else if a=0 then none
 else if k=21 then some (l.take 0++[]++l.drop a,0)
 else if k=23 then some (l.take (Gr l a false)++[]++l.drop a,Gr l a false)
 else if md=2 then some (l,a-1)
 else some (l.take (a-1)++[]++l.drop a,a-1)
def J2k (o:Option (List Int×Nat))(w:World)(e:Ending)(w':World):Prop:=
 match o with
 |some (m,b)=>kG m b w e w'
 |none=>J2g w e w'
theorem zY {l:List Int}(hl:Bj w A n c l)(hA:A=none→c=0)(hn:n≤200)(ha:a≤n)(dw:md=1∨md=2):
 Calls prog 85 #[.agg #[.slice A n c,a],.int .i64 md,.int .i64 k] w (J2k (Gy md l a k) w):=by
 have ab:=hl.len;have no:NoC md n a k→Gy md l a k=none→Calls prog 85 #[.agg #[.slice A n c,a],.int .i64 md,.int .i64 k] w (J2k (Gy md l a k) w):=fun h1 h2=>by
  rw[h2];exact J4n hl.ncap hl.nmax hn ha h1
 have cut:∀(f t:Nat) (T:List Int),J2m md l n a k f t T→Gy md l a k=some (l.take f++T++l.drop t,f+T.length)→Calls prog 85 #[.agg #[.slice A n c,a],.int .i64 md,.int .i64 k] w (J2k (Gy md l a k) w):=fun f t T h1 h2=>by
  rw[h2];exact zW hl hA hn ha h1
 by_cases h1:32≤k∧k≠127
 ·by_cases h2:md=2∧a<l.length
  ·exact cut a (a+1) [k] (.inr (.inr (.inl ⟨h1,h2.1,by omega,rfl,rfl,rfl⟩))) (by unfold Gy;rw[if_pos h1,if_pos h2];rfl)
  ·by_cases h3:l.length=200
   ·exact no (dw.elim (fun h=>.inl ⟨h1,h,by omega⟩) (fun h=>.inr (.inl ⟨h1,h,by omega,by omega⟩))) (by unfold Gy;rw[if_pos h1,if_neg h2,if_pos h3])
   ·refine cut a a [k] ?_ (by unfold Gy;rw[if_pos h1,if_neg h2,if_neg h3];rfl)
    unfold J2m;rcases dw with h|h
    ·exact .inl ⟨h1,h,by omega,rfl,rfl,rfl⟩
    ·exact .inr (.inl ⟨h1,h,by omega,by omega,rfl,rfl,rfl⟩)
 ·by_cases h2:k≠8∧k≠127∧k≠21∧k≠23
  ·exact no (dw.elim (fun h=>.inr (.inr (.inl ⟨⟨⟨by omega,h2.1,h2.2.2.1⟩,h2.2.2.2⟩,h⟩))) (fun h=>.inr (.inr (.inr (.inl ⟨⟨⟨by omega,h2.1,h2.2.2.1⟩,h2.2.2.2⟩,h⟩))))) (by unfold Gy;rw[if_neg h1,if_pos h2])
  ·by_cases h3:a=0
   ·exact no (by unfold NoC;rcases(show k=8∨k=127∨k=21∨k=23 by omega)with h|h|h|h<;>rcases dw with g|g<;>simp[h,g,h3]) (by unfold Gy;rw[if_neg h1,if_neg h2,if_pos h3])
   ·by_cases h4:k=21
    ·exact cut 0 a [] (dw.elim (fun h=>.inr (.inr (.inr (.inl ⟨h4,by omega,h,rfl,rfl,rfl⟩)))) (fun h=>.inr (.inr (.inr (.inr (.inl ⟨h4,by omega,h,rfl,rfl,rfl⟩)))))) (by unfold Gy;rw[if_neg h1,if_neg h2,if_neg h3,if_pos h4];rfl)
    ·by_cases h5:k=23
     ·exact cut (Gr l a false) a [] (dw.elim (fun h=>.inr (.inr (.inr (.inr (.inr (.inr (.inr (.inl ⟨h5,by omega,h,rfl,rfl,rfl⟩)))))))) (fun h=>.inr (.inr (.inr (.inr (.inr (.inr (.inr (.inr ⟨h5,by omega,h,rfl,rfl,rfl⟩))))))))) (by unfold Gy;rw[if_neg h1,if_neg h2,if_neg h3,if_neg h4,if_pos h5];rfl)
     ·by_cases h6:md=2
      ·have e:Gy md l a k=some (l,a-1):=by unfold Gy;rw[if_neg h1,if_neg h2,if_neg h3,if_neg h4,if_neg h5,if_pos h6]
       rw[e,h6];exact vD hl hA hn ha (by omega) (by omega)
      ·exact cut (a-1) a [] ((show k=8∨k=127 by omega).elim (fun h=>.inr (.inr (.inr (.inr (.inr (.inl ⟨h,by omega,by omega,rfl,rfl⟩)))))) (fun h=>.inr (.inr (.inr (.inr (.inr (.inr (.inl ⟨h,by omega,by omega,rfl,rfl⟩)))))))) (by unfold Gy;rw[if_neg h1,if_neg h2,if_neg h3,if_neg h4,if_neg h5,if_neg h6];rfl)
end
