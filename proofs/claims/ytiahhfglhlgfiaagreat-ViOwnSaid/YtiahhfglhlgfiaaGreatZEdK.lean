/-
  Part ZEdK.
-/
import Derived.Test.YtiahhfglhlgfiaaGreatZTk
import Derived.Test.YtiahhfglhlgfiaaGreatZConc
import Derived.Test.YtiahhfglhlgfiaaGreatZRegA
import Derived.Deep.RegionLaw
import Derived.Deep.RegionHeld3
import Derived.Deep.DeepCutAuto
import Derived.Deep.CutRange
import Derived.Laws.Rows
import Derived.IntWalk
set_option maxRecDepth 100000
set_option maxHeartbeats 16000000
set_option linter.unusedVariables false
set_option linter.unusedSimpArgs false
namespace Go.Proofs.YtiahhfglhlgfiaaGreat
open Go.RowKit
open Act renaming put→Am
open AllReadyH renaming cons→Ah,nil→Ak
open _root_.List renaming getElem?_cons_succ→Af,getElem?_cons_zero→Ae,getElem?_toArray→Ag,getElem_cons_succ→Aa,getElem_cons_zero→A7,getElem_toArray→Ab,setIfInBounds_toArray→A6,set_cons_succ→Ad,set_cons_zero→Ac
open _root_.Nat renaming le_refl→Ai,le_trans→Ap
open World renaming setCell→Bb
section
variable {A:Option Addr}{w:World}{n c a g t:Nat}{cs:Array Value}{k md:Int}
theorem Kc {a b:Value}(h:An w g t #[a,b]):w.cell? ⟨g,0,none⟩=some a∧w.cell? ⟨g,1,none⟩=some b:=⟨h.cell 0,h.cell 1⟩
theorem Q1 (h:An w g t cs):w.frozen? ⟨g,0,none⟩=false∧w.frozen? ⟨g,1,none⟩=false:=⟨h.frozen 0,h.frozen 1⟩
theorem iK:(Tryz.prog.info? 34).map (·.size)=some 2:=by kernel_rfl
theorem Ng (h:cs.size=2):(Tryz.prog.info? 34).map (·.size)=some cs.size:=by rw[h];exact iK
theorem Fo {P:Program}{fn:Func}{p q:Tmp}{ty:TypeId}(h:fn.results=#[.cell p ty,.tmp q])(tmps:Array Value)(w:World)(g:Nat)(t:TypeId)(cs:Array Value)(fr:Nat×Nat)(d:TypeDesc)(v:Value)
 (hp:tmps.getD p undef=.pointer (some ⟨g,0,none⟩)) (hq:tmps.getD q undef=v) (hg:w.heap[g]? = some (.cells cs t fr))
 (hu:P.underlying ty=some d) (hd:(match d with|.struct _|.array _ _=>true|_=>false)=true) (hi:(P.info? ty).map (·.size)=some cs.size):
 (results fn tmps).run P w=.ok (.tuple #[.agg cs,v]) w:=by
 have hp':tmps[p]?.getD undef=.pointer (some ⟨g,0,none⟩):=by simpa using hp
 exact I38
def pO (w:World)(g:Nat)(a b:Value):World:=(w.setCell ⟨g,0,none⟩ a).setCell ⟨g,1,none⟩ b
theorem Mz {a' b':Value}(h:An w g t #[a',b'])(a b:Value):An (pO w g a b) g t #[a,b]:=(h.set_ 0 a).set_ 1 b
theorem My {w0 w:World}{g:Nat}(h:Al w0 w)(hg:w0.heap.size≤g)(a b:Value):Al w0 (pO w g a b):=(h.setCell (p:=⟨g,0,none⟩) hg a).setCell (p:=⟨g,1,none⟩) hg b
theorem So {g base e' z n cc:Nat}{xs:List Value}(h:Ay w base e' z A n cc xs)(hg:g<base)(a b:Value):Ay (pO w g a b) base e' z A n cc xs:=(h.setCell (p:=⟨g,0,none⟩) hg a).setCell (p:=⟨g,1,none⟩) hg b
def eB (l':List Int)(a':Nat)(w:World)(e:Ending)(w':World):Prop:=
 Al w w'∧∃B n d,e=.returned (.tuple #[.agg #[.slice B n d,.int .i64 a'],.int .i64 0])∧Av w' w.heap.size B n d l'
def tO (w:World)(e:Ending)(w':World):Prop:=Al w w'∧∃x:Int,x≠0∧e=.returned (.tuple #[.agg #[.slice none 0 0,.int .i64 0],.int .i64 x])
def uB (md:Int)(l:List Int)(n a:Nat)(k:Int)(f t:Nat)(T:List Int):Prop:=
 ((32≤k∧k≠127)∧md=1∧n<200∧f=a∧t=a∧T=[k])∨
 ((32≤k∧k≠127)∧md=2∧n<200∧a=n∧f=a∧t=a∧T=[k])∨
 ((32≤k∧k≠127)∧md=2∧a<n∧f=a∧t=a+1∧T=[k])∨
 (k=21∧0<a∧md=1∧f=0∧t=a∧T=[])∨
 (k=21∧0<a∧md=2∧f=0∧t=a∧T=[])∨
 (k=8∧a=f+1∧md=1∧t=a∧T=[])∨
 (k=127∧a=f+1∧md=1∧t=a∧T=[])∨
 (k=23∧0<a∧md=1∧f=Fj l a false∧t=a∧T=[])∨
 (k=23∧0<a∧md=2∧f=Fj l a false∧t=a∧T=[])
theorem rM {n c a f t:Nat}{l T:List Int}(hl:Bi w A n c l)(hA:A=none→c=0)(hn:n≤200)(ha:a≤n)(hc:uB md l n a k f t T):
 Calls Tryz.prog 48 #[.agg #[.slice A n c,.int .i64 (a:Int)],.int .i64 md,.int .i64 k] w (eB (l.take f++T++l.drop t) (f+T.length) w):=by
 have HL:=A4 hl;have hlen:=A4 hl.len;have hnc:=hl.ncap;have hcm:=hl.nmax;unfold maxLen at hcm;have hbf:Fj l a false≤a:=Lg (by rw[hlen.out];exact ha)
 have hft:f≤n∧t≤n∧f≤t:=by rcases hc with h|h|h|h|h|h|h|h|h<;>omega
 have hT:T.length≤1:=by rcases hc with⟨_,_,_,_,_,rfl⟩|⟨_,_,_,_,_,_,rfl⟩|⟨_,_,_,_,_,rfl⟩|⟨_,_,_,_,_,rfl⟩|⟨_,_,_,_,_,rfl⟩|⟨_,_,_,_,rfl⟩|⟨_,_,_,_,rfl⟩|⟨_,_,_,_,_,rfl⟩|⟨_,_,_,_,_,rfl⟩<;>simp
 obtain⟨W,hW,hx,hz,b3,b6⟩:∃W,W=(w.alloc (.cells #[.slice A n c,.int .i64 (a:Int)] 34)).alloc (.cells #[.slice none 0 0,.int .i64 0] 34)∧Al w W∧W.heap.size=w.heap.size+2∧
  An W w.heap.size 34 #[.slice A n c,.int .i64 (a:Int)]∧An W (w.heap.size+1) 34 #[.slice none 0 0,.int .i64 0]:=
  ⟨_,rfl,(Al.alloc _ _).to_alloc _,by simp,(An.new w _ _).ext (Al.alloc _ _),by
   have h:=An.new (w.alloc (.cells #[.slice A n c,.int .i64 (a:Int)] 34)) 34 #[.slice none 0 0,.int .i64 0]
   rwa[World.size_alloc]at h⟩
 have t1:decide ((200:Int)<(n:Int))=false:=by simp;omega
 have t3:((a:Int)<0)=False:=by simp
 have t4:decide (n<a)=false:=by simp;omega
 have t5:decide ((n:Int)<(a:Int))=false:=by simp;omega
 have HBk:Hid (∀wx,Al w wx→Calls Tryz.prog 86 #[.slice A n c,.int .i64 (a:Int),.bool false] wx fun e w'=>e=.returned (.tuple #[.int .i64 (Fj l a false:Int),.int .i64 0])∧Al wx w'):=A4 fun wx he=>Yr (k:=a) (big:=false) (hl.ext he) (by omega) ha
 obtain⟨c0,c1⟩:=Kc b3;generalize hM:l.take f++T++l.drop t=M;have HC:Hid (∀(wq:World) (S TA:Option Addr) (tc:Nat),Al w wq→Bi wq TA T.length tc T→Rd wq 1 S 3 3 [.slice A f c,.slice TA T.length tc,.slice (if c=t then A else Option.map (fun x=>x.add t) A) (n-t) (c-t)]→Calls Tryz.prog 87 #[.slice S 3 3] wq fun e w'=>∃u,e=.returned u∧(∃B m d,u=.slice B m d∧Av w' wq.heap.size B m d M)∧Al wq w'):=A4 (fun wq S TA tc he hI hS=>by
  have hl:=HL.out.ext he;have h1:=Wl hS (Np.three (hl.front hft.1) hI (hl.cut hft.2.1 (Ai n))) rfl (by
   have:=hlen.out;simp;omega)
  refine h1.mono fun e w' ⟨B,m,d,h2,h3,h4⟩=>⟨_,h2,⟨B,m,d,rfl,?_⟩,h4⟩
  have:(l.take f::T::[(l.drop t).take (n-t)]).flatten=l.take f++T++l.drop t:=by
   have hh:(l.drop t).take (n-t)=l.drop t:=List.take_of_length_le (by rw[List.length_drop,hlen.out];exact Ai _)
   rw[hh];simp
  rw[←hM,←this];exact h3)
 clear hM;have hfc:f≤c:=by omega
 have htc:t≤c:=by omega
 clear hl hbf;have HFT:=A4 hft;clear hft;rcases hc with⟨⟨h1,h2⟩,rfl,h3,hf,ht,rfl⟩|⟨⟨h1,h2⟩,rfl,h3,hf0,hf,ht,rfl⟩|⟨⟨h1,h2⟩,rfl,h3,hf,ht,rfl⟩|⟨rfl,h3,rfl,hf,ht,rfl⟩|⟨rfl,h3,rfl,hf,ht,rfl⟩|⟨rfl,hf,rfl,ht,rfl⟩|⟨rfl,hf,rfl,ht,rfl⟩|⟨rfl,h3,rfl,hf,ht,rfl⟩|⟨rfl,h3,rfl,hf,ht,rfl⟩
 all_goals
  first
   |(have E9:Hid (((a:Int)-1)=(f:Int)):=A4 (by omega);have E10:Hid ((a:Int)=(t:Int)):=A4 (by omega))
   |(have E9:Hid ((a:Int)=(f:Int)):=A4 (by omega);have E10:Hid ((a:Int)=(t:Int)):=A4 (by omega))
   |(have E9:Hid ((a:Int)=(f:Int)):=A4 (by omega);have E10:Hid (((a:Int)+1)=(t:Int)):=A4 (by omega))
   |(have E9:Hid ((0:Int)=(f:Int)):=A4 (by omega);have E10:Hid ((a:Int)=(t:Int)):=A4 (by omega))
   |(have E9:Hid ((Fj l a false:Int)=(f:Int)):=A4 (by omega);have E10:Hid ((a:Int)=(t:Int)):=A4 (by omega))
  try(have t6:(k !=127)=true:=by simpa using h2)
  try(have t2:((n:Int)==200)=false:=by simp;omega)
  try(have t7:((a:Int)==0)=false:=by simp;omega)
  try(have t8:decide (a<n)=false:=by have:=hf0;simp;omega)
  try clear hf0
  clear hf ht;go_enter Tryz.func48,Tryz.ntmps48
  go_upto_region 1 with fail
  rw[←hW];clear hW;go_upto_region 6 with fail
  go_quiet (fail)
  have hx0:Al w (W.drewN nq):=hx.trans (Al.drewN W nq);have b3':=b3.ext (Al.drewN W nq);have b6':=b6.ext (Al.drewN W nq);have hzV:w.heap.size+2≤(W.drewN nq).heap.size:=Nat.le_of_eq hz.symm;clear c0 c1 b3 b6 hx hz;generalize W.drewN nq=V0 at*;obtain⟨e0,e1⟩:=Kc b3'
 all_goals
  first
   |(
    go_wp2_with fail
    refine(HBk.out _ hx0).mono ?_
    rintro e V ⟨rfl,hE⟩;replace hx0:=hx0.trans hE;replace b3':=b3'.ext hE;replace b6':=b6'.ext hE;replace hzV:=Ap hzV hE.hsize;clear e0 e1 hE HBk;obtain⟨e0,e1⟩:=Kc b3';go_upto_region 25 with fail)
   |(
    go_upto_region 25 with fail
    clear HBk;generalize V0=V at *)
 all_goals
  clear e0 e1;have hft:=HFT.out;have hft1:=hft.1;have hft2:=hft.2.1;clear hft
 iterate 3
  focus
   have hE:=Al.alloc V (.cells #[.int .i64 k] 3);have hI:Bi (V.alloc (.cells #[.int .i64 k] 3)) (some ⟨V.heap.size,0,none⟩) 1 1 [k]:=Bi.litAt V 3 [k] rfl rfl (by omega)
   replace hx0:=hx0.trans hE;replace b3':=b3'.ext hE;replace b6':=b6'.ext hE;replace hzV:=Ap hzV hE.hsize;clear hE;generalize (some ⟨V.heap.size,0,none⟩:Option Addr)=TA at*;generalize World.alloc _ _=V3 at*;refine wp_region_held_drew (S:=fun w'=>Al w w'∧An w' w.heap.size 34 #[.slice A n c,.int .i64 (a:Int)]) (by kernel_rfl) ⟨hx0.to_drew,b3'⟩ (fun hS=>?_)
   refine B8 (i:=0) (v:=(.pointer (some ⟨w.heap.size,0,none⟩))) rfl hS ?_
   refine F4 (i:=1) (v:=(.slice A n c)) rfl (fun w' hSw=>by have q0:=hSw.2.cell 0;simp only[Ag,Ae,Af]at q0;go_simp) hS ?_
   refine F4 (i:=2) (v:=(.int .i64 (f:Int))) rfl (fun w' hSw=>by have e9:=E9.out;go_simp) hS ?_
   refine B8 (i:=3) (v:=(.slice A f c)) rfl hS ?_
   refine B8 (i:=4) (v:=(.slice TA 1 1)) rfl hS ?_
   refine B8 (i:=5) (v:=(.pointer (some ⟨w.heap.size,0,none⟩))) rfl hS ?_
   refine F4 (i:=6) (v:=(.slice A n c)) rfl (fun w' hSw=>by have q0:=hSw.2.cell 0;simp only[Ag,Ae,Af]at q0;go_simp) hS ?_
   refine F4 (i:=7) (v:=(.int .i64 (t:Int))) rfl (fun w' hSw=>by have e10:=E10.out;go_simp) hS ?_
   refine B8 (i:=8) (v:=(.slice (if c=t then A else Option.map (fun x=>x.add t) A) (n-t) (c-t))) rfl hS ?_
   refine F4 (i:=11) (v:=(.int .i64 (f:Int))) rfl (fun w' hSw=>by have e9:=E9.out;go_simp) hS ?_
   refine B8 (i:=12) (v:=(.slice TA 1 1)) rfl hS ?_
   refine B8 (i:=13) (v:=(.int .i64 1)) rfl hS ?_
   refine F4 (i:=14) (v:=(.int .i64 ((f:Int)+1))) rfl (fun w' hSw=>by have hwr:IntKind.i64.wrap ((f:Int)+1)=(f:Int)+1:=IntWalk.i64_in _ (by omega);go_simp) hS ?_
   have b6d:An V3.drew (w.heap.size+1) 34 #[.slice none 0 0,.int .i64 0]:=b6';have hId:Bi V3.drew TA 1 1 [k]:=hI;have hzd:w.heap.size+2≤V3.drew.heap.size:=hzV;clear b6' hI hx0 b3' hzV;generalize V3.drew=cur at*;refine wpAnyH_ready (rs:=[9]) (by decide +kernel) (by simp) (Ah rfl (fun K hK=>?_) Ak)
   go_simp
   have hE:=Al.alloc cur (.cells #[.slice A f c,.slice TA 1 1,.slice (if c=t then A else Option.map (fun x=>x.add t) A) (n-t) (c-t)] 27)
   have hR:=Rd.litAtConc cur 27 [.slice A f c,.slice TA 1 1,.slice (if c=t then A else Option.map (fun x=>x.add t) A) (n-t) (c-t)] rfl rfl (show(3:Nat)≤1000 by omega)
   refine hK.out _ _ ⟨hS.1.trans hE,hS.2.ext hE⟩ (fun hS'=>?_)
   clear hK K;replace hS:=hS';replace hId:=hId.ext hE;replace b6d:=b6d.ext hE;replace hzd:=Ap hzd hE.hsize;clear hS' hE;generalize World.alloc _ _=cu2 at*
   try simp only[Ab,A7,Aa,Am,A6,Ac,Ad]
   refine wpAnyH_ready (rs:=[10]) (by decide +kernel) (by simp) (Ah rfl (fun K hK=>?_) Ak)
   refine C9 rfl 87 #[.slice (some ⟨cur.heap.size,0,none⟩) 3 3] rfl (by kernel_rfl) (fun u w'=>∃B m d,u=.slice B m d∧Av w' cu2.heap.size B m d M) (HC.out _ _ _ _ hS.1 hId hR) ?_
   rintro u w3 ⟨B,m,d,rfl,ho⟩ hE;refine hK.out _ _ ⟨hS.1.trans hE,hS.2.ext hE⟩ (fun hS'=>?_)
   clear hK K;replace hS:=hS';replace b6d:=b6d.ext hE;clear hS' hE hId hR
   try simp only[Ab,A7,Aa,Am,A6,Ac,Ad]
   refine B8 (i:=15) (v:=(.agg #[.slice B m d,.int .i64 ((f:Int)+1)])) rfl hS ?_
   obtain⟨q0,q1⟩:=Kc b6d;obtain⟨f0,f1⟩:=Q1 b6d;refine wpAnyH_ready (rs:=[16]) (by decide +kernel) (by simp) (Ah rfl (fun K hK=>?_) Ak)
   go_simp
   refine hK.out _ _ ⟨My hS.1 (show w.heap.size≤w.heap.size+1 by omega) _ _,Bh (g':=w.heap.size+1) (Bh (g':=w.heap.size+1) hS.2 (by omega) 0 _) (by omega) 1 _⟩ (fun hS'=>?_)
   have HF:=A4 (Mz b6d (.slice B m d) (.int .i64 ((f:Int)+1)));have HO:=A4 (So ho (show w.heap.size+1<cu2.heap.size by omega) (.slice B m d) (.int .i64 ((f:Int)+1)))
   unfold pO at HF HO;clear hK K q0 q1 f0 f1 b6d ho hS;generalize Bb (Bb _ _ _) _ _=W9 at*
   try simp only[Ab,A7,Aa,Am,A6,Ac,Ad]
   refine wpAnyH_ready (rs:=[17]) (by decide +kernel) (by simp) (Ah rfl (fun K hK=>?_) Ak)
   go_simp
   refine hK.out _ _ hS' (fun _=>?_)
   clear hK K;refine wpAnyH_done (by kernel_rfl) ?_ _
   have HX:=A4 hS'.1;clear hS';go_wp2_with fail
   all_goals
    refine bodyPost_ret (v:=.tuple #[.agg #[.slice B m d,.int .i64 ((f:Int)+1)],.int .i64 0]) ?_ rfl ⟨HX.out,B,m,d,rfl,Ay.lower HO.out (by omega)⟩
    exact I63
 all_goals
  have hI:=Bi.none_ V;refine wp_region_held_drew (S:=fun w'=>Al w w'∧An w' w.heap.size 34 #[.slice A n c,.int .i64 (a:Int)]) (by kernel_rfl) ⟨hx0.to_drew,b3'⟩ (fun hS=>?_)
  refine B8 (i:=0) (v:=(.pointer (some ⟨w.heap.size,0,none⟩))) rfl hS ?_
  refine F4 (i:=1) (v:=(.slice A n c)) rfl (fun w' hSw=>by have q0:=hSw.2.cell 0;simp only[Ag,Ae,Af]at q0;go_simp) hS ?_
  refine F4 (i:=2) (v:=(.int .i64 (f:Int))) rfl (fun w' hSw=>by have e9:=E9.out;go_simp) hS ?_
  refine B8 (i:=3) (v:=(.slice A f c)) rfl hS ?_
  refine B8 (i:=4) (v:=(.slice none 0 0)) rfl hS ?_
  refine B8 (i:=5) (v:=(.pointer (some ⟨w.heap.size,0,none⟩))) rfl hS ?_
  refine F4 (i:=6) (v:=(.slice A n c)) rfl (fun w' hSw=>by have q0:=hSw.2.cell 0;simp only[Ag,Ae,Af]at q0;go_simp) hS ?_
  refine F4 (i:=7) (v:=(.int .i64 (t:Int))) rfl (fun w' hSw=>by have e10:=E10.out;go_simp) hS ?_
  refine B8 (i:=8) (v:=(.slice (if c=t then A else Option.map (fun x=>x.add t) A) (n-t) (c-t))) rfl hS ?_
  refine F4 (i:=11) (v:=(.int .i64 (f:Int))) rfl (fun w' hSw=>by have e9:=E9.out;go_simp) hS ?_
  refine B8 (i:=12) (v:=(.slice none 0 0)) rfl hS ?_
  refine B8 (i:=13) (v:=(.int .i64 0)) rfl hS ?_
  refine F4 (i:=14) (v:=(.int .i64 (f:Int))) rfl (fun w' hSw=>by have hwr:IntKind.i64.wrap (f:Int)=(f:Int):=IntWalk.i64_in _ (by omega);go_simp) hS ?_
  have b6d:An V.drew (w.heap.size+1) 34 #[.slice none 0 0,.int .i64 0]:=b6';have hId:Bi V.drew none 0 0 []:=hI;have hzd:w.heap.size+2≤V.drew.heap.size:=hzV;clear b6' hI hx0 b3' hzV;generalize V.drew=cur at*;refine wpAnyH_ready (rs:=[9]) (by decide +kernel) (by simp) (Ah rfl (fun K hK=>?_) Ak)
  go_simp
  have hE:=Al.alloc cur (.cells #[.slice A f c,.slice none 0 0,.slice (if c=t then A else Option.map (fun x=>x.add t) A) (n-t) (c-t)] 27)
  have hR:=Rd.litAtConc cur 27 [.slice A f c,.slice none 0 0,.slice (if c=t then A else Option.map (fun x=>x.add t) A) (n-t) (c-t)] rfl rfl (show(3:Nat)≤1000 by omega)
  refine hK.out _ _ ⟨hS.1.trans hE,hS.2.ext hE⟩ (fun hS'=>?_)
  clear hK K;replace hS:=hS';replace hId:=hId.ext hE;replace b6d:=b6d.ext hE;replace hzd:=Ap hzd hE.hsize;clear hS' hE;generalize World.alloc _ _=cu2 at*
  try simp only[Ab,A7,Aa,Am,A6,Ac,Ad]
  refine wpAnyH_ready (rs:=[10]) (by decide +kernel) (by simp) (Ah rfl (fun K hK=>?_) Ak)
  refine C9 rfl 87 #[.slice (some ⟨cur.heap.size,0,none⟩) 3 3] rfl (by kernel_rfl) (fun u w'=>∃B m d,u=.slice B m d∧Av w' cu2.heap.size B m d M) (HC.out _ _ _ _ hS.1 hId hR) ?_
  rintro u w3 ⟨B,m,d,rfl,ho⟩ hE;refine hK.out _ _ ⟨hS.1.trans hE,hS.2.ext hE⟩ (fun hS'=>?_)
  clear hK K;replace hS:=hS';replace b6d:=b6d.ext hE;clear hS' hE hId hR
  try simp only[Ab,A7,Aa,Am,A6,Ac,Ad]
  refine B8 (i:=15) (v:=(.agg #[.slice B m d,.int .i64 (f:Int)])) rfl hS ?_
  obtain⟨q0,q1⟩:=Kc b6d;obtain⟨f0,f1⟩:=Q1 b6d;refine wpAnyH_ready (rs:=[16]) (by decide +kernel) (by simp) (Ah rfl (fun K hK=>?_) Ak)
  go_simp
  refine hK.out _ _ ⟨My hS.1 (show w.heap.size≤w.heap.size+1 by omega) _ _,Bh (g':=w.heap.size+1) (Bh (g':=w.heap.size+1) hS.2 (by omega) 0 _) (by omega) 1 _⟩ (fun hS'=>?_)
  have HF:=A4 (Mz b6d (.slice B m d) (.int .i64 (f:Int)));have HO:=A4 (So ho (show w.heap.size+1<cu2.heap.size by omega) (.slice B m d) (.int .i64 (f:Int)))
  unfold pO at HF HO;clear hK K q0 q1 f0 f1 b6d ho hS;generalize Bb (Bb _ _ _) _ _=W9 at*
  try simp only[Ab,A7,Aa,Am,A6,Ac,Ad]
  refine wpAnyH_ready (rs:=[17]) (by decide +kernel) (by simp) (Ah rfl (fun K hK=>?_) Ak)
  go_simp
  refine hK.out _ _ hS' (fun _=>?_)
  clear hK K;refine wpAnyH_done (by kernel_rfl) ?_ _
  have HX:=A4 hS'.1;clear hS';go_wp2_with fail
  all_goals
   refine bodyPost_ret (v:=.tuple #[.agg #[.slice B m d,.int .i64 (f:Int)],.int .i64 0]) ?_ rfl ⟨HX.out,B,m,d,rfl,Ay.lower HO.out (by omega)⟩
   exact I63
def yF (md:Int)(n a:Nat)(k:Int):Prop:=
 ((32≤k∧k≠127)∧md=1∧n=200)∨((32≤k∧k≠127)∧md=2∧n=200∧a=n)∨
 (((k<32∧k≠8∧k≠21)∧k≠23)∧md=1)∨(((k<32∧k≠8∧k≠21)∧k≠23)∧md=2)∨
 (k=8∧a=0∧md=1)∨(k=8∧a=0∧md=2)∨(k=127∧a=0∧md=1)∨(k=127∧a=0∧md=2)∨
 (k=21∧a=0∧md=1)∨(k=21∧a=0∧md=2)∨(k=23∧a=0∧md=1)∨(k=23∧a=0∧md=2)
theorem vQ (hnc:n≤c)(hcm:c≤maxLen)(hn:n≤200)(ha:a≤n)(hc:yF md n a k):
 Calls Tryz.prog 48 #[.agg #[.slice A n c,.int .i64 (a:Int)],.int .i64 md,.int .i64 k] w (tO w):=by
 have N0:=trivial;exact zO
theorem nP {l:List Int}{k:Int}(hl:Bi w A n c l)(hA:A=none→c=0)(hn:n≤200)(ha:a≤n)(h0:0<a)(hk:k=8∨k=127):
 Calls Tryz.prog 48 #[.agg #[.slice A n c,.int .i64 (a:Int)],.int .i64 2,.int .i64 k] w (eB l (a-1) w):=by
 have N1:=trivial;exact zO
def Hy (md:Int)(l:List Int)(a:Nat)(k:Int):Option (List Int×Nat):=
 if 32≤k∧k≠127 then
  if md=2∧a<l.length then some (l.take a++[k]++l.drop (a+1),a+1)
  else if l.length=200 then none else some (l.take a++[k]++l.drop a,a+1)
 else if k≠8∧k≠127∧k≠21∧k≠23 then none
 else if a=0 then none
 else if k=21 then some (l.take 0++[]++l.drop a,0)
 else if k=23 then some (l.take (Fj l a false)++[]++l.drop a,Fj l a false)
 else if md=2 then some (l,a-1)
 else some (l.take (a-1)++[]++l.drop a,a-1)
def tZ (o:Option (List Int×Nat))(w:World)(e:Ending)(w':World):Prop:=
 match o with
 |some (m,b)=>eB m b w e w'
 |none=>tO w e w'
theorem rO {l:List Int}(hl:Bi w A n c l)(hA:A=none→c=0)(hn:n≤200)(ha:a≤n)(hmd:md=1∨md=2):
 Calls Tryz.prog 48 #[.agg #[.slice A n c,.int .i64 (a:Int)],.int .i64 md,.int .i64 k] w (tZ (Hy md l a k) w):=by
 have hlen:=hl.len;have no:yF md n a k→Hy md l a k=none→Calls Tryz.prog 48 #[.agg #[.slice A n c,.int .i64 (a:Int)],.int .i64 md,.int .i64 k] w (tZ (Hy md l a k) w):=fun h1 h2=>by
  rw[h2];exact vQ hl.ncap hl.nmax hn ha h1
 have cut:∀(f t:Nat) (T:List Int),uB md l n a k f t T→Hy md l a k=some (l.take f++T++l.drop t,f+T.length)→Calls Tryz.prog 48 #[.agg #[.slice A n c,.int .i64 (a:Int)],.int .i64 md,.int .i64 k] w (tZ (Hy md l a k) w):=fun f t T h1 h2=>by
  rw[h2];exact rM hl hA hn ha h1
 by_cases h1:32≤k∧k≠127
 ·by_cases h2:md=2∧a<l.length
  ·exact cut a (a+1) [k] (.inr (.inr (.inl ⟨h1,h2.1,by omega,rfl,rfl,rfl⟩))) (by unfold Hy;rw[if_pos h1,if_pos h2];rfl)
  ·by_cases h3:l.length=200
   ·exact no (hmd.elim (fun h=>.inl ⟨h1,h,by omega⟩) (fun h=>.inr (.inl ⟨h1,h,by omega,by omega⟩))) (by unfold Hy;rw[if_pos h1,if_neg h2,if_pos h3])
   ·refine cut a a [k] ?_ (by unfold Hy;rw[if_pos h1,if_neg h2,if_neg h3];rfl)
    unfold uB;rcases hmd with h|h
    ·exact .inl ⟨h1,h,by omega,rfl,rfl,rfl⟩
    ·exact .inr (.inl ⟨h1,h,by omega,by omega,rfl,rfl,rfl⟩)
 ·by_cases h2:k≠8∧k≠127∧k≠21∧k≠23
  ·exact no (hmd.elim (fun h=>.inr (.inr (.inl ⟨⟨⟨by omega,h2.1,h2.2.2.1⟩,h2.2.2.2⟩,h⟩))) (fun h=>.inr (.inr (.inr (.inl ⟨⟨⟨by omega,h2.1,h2.2.2.1⟩,h2.2.2.2⟩,h⟩))))) (by unfold Hy;rw[if_neg h1,if_pos h2])
  ·by_cases h3:a=0
   ·exact no (by unfold yF;rcases(show k=8∨k=127∨k=21∨k=23 by omega)with h|h|h|h<;>rcases hmd with g|g<;>simp[h,g,h3]) (by unfold Hy;rw[if_neg h1,if_neg h2,if_pos h3])
   ·by_cases h4:k=21
    ·exact cut 0 a [] (hmd.elim (fun h=>.inr (.inr (.inr (.inl ⟨h4,by omega,h,rfl,rfl,rfl⟩)))) (fun h=>.inr (.inr (.inr (.inr (.inl ⟨h4,by omega,h,rfl,rfl,rfl⟩)))))) (by unfold Hy;rw[if_neg h1,if_neg h2,if_neg h3,if_pos h4];rfl)
    ·by_cases h5:k=23
     ·exact cut (Fj l a false) a [] (hmd.elim (fun h=>.inr (.inr (.inr (.inr (.inr (.inr (.inr (.inl ⟨h5,by omega,h,rfl,rfl,rfl⟩)))))))) (fun h=>.inr (.inr (.inr (.inr (.inr (.inr (.inr (.inr ⟨h5,by omega,h,rfl,rfl,rfl⟩))))))))) (by unfold Hy;rw[if_neg h1,if_neg h2,if_neg h3,if_neg h4,if_pos h5];rfl)
     ·by_cases h6:md=2
      ·have e:Hy md l a k=some (l,a-1):=by unfold Hy;rw[if_neg h1,if_neg h2,if_neg h3,if_neg h4,if_neg h5,if_pos h6]
       rw[e,h6];exact nP hl hA hn ha (by omega) (by omega)
      ·exact cut (a-1) a [] ((show k=8∨k=127 by omega).elim (fun h=>.inr (.inr (.inr (.inr (.inr (.inl ⟨h,by omega,by omega,rfl,rfl⟩)))))) (fun h=>.inr (.inr (.inr (.inr (.inr (.inr (.inl ⟨h,by omega,by omega,rfl,rfl⟩)))))))) (by unfold Hy;rw[if_neg h1,if_neg h2,if_neg h3,if_neg h4,if_neg h5,if_neg h6];rfl)
end
