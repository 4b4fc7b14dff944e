/-
  Part ZEdM.
-/
import Derived.Test.YtkaefdmhlmlhbaaGreatZTk
import Derived.Test.YtkaefdmhlmlhbaaGreatZRegA
import Derived.Test.YtkaefdmhlmlhbaaGreatZConc
set_option maxRecDepth 100000
set_option maxHeartbeats 16000000
set_option linter.unusedVariables false
set_option linter.unusedSimpArgs false
namespace Go.Proofs.YtkaefdmhlmlhbaaGreat
open Go.RowKit
open Act renaming put→Ap
open AllReadyH renaming cons→Ai,nil→Am
open _root_.List renaming getElem?_cons_succ→Ag,getElem?_cons_zero→Af,getElem?_toArray→Ah,getElem_cons_succ→Ab,getElem_cons_zero→Aa,getElem_toArray→Ac,setIfInBounds_toArray→A7,set_cons_succ→Ae,set_cons_zero→Ad
open _root_.Nat renaming le_refl→Aj,le_trans→Ar
open World renaming setCell→Bh
section
variable {A:Option Addr}{w:World}{n c a:Nat}{k md:Int}
def yG (md:Int)(l:List Int)(n a:Nat)(k:Int)(f t:Nat)(T:List Int):Prop:=
 ((32≤k∧k≠127)∧md=1∧n<200∧f=a∧t=a∧T=[k])∨
 ((32≤k∧k≠127)∧md=2∧n<200∧a=n∧f=a∧t=a∧T=[k])∨
 ((32≤k∧k≠127)∧md=2∧a<n∧f=a∧t=a+1∧T=[k])∨
 (k=21∧0<a∧md=1∧f=0∧t=a∧T=[])∨
 (k=21∧0<a∧md=2∧f=0∧t=a∧T=[])∨
 (k=8∧a=f+1∧md=1∧t=a∧T=[])∨
 (k=127∧a=f+1∧md=1∧t=a∧T=[])∨
 (k=23∧0<a∧md=1∧f=Gb l a false∧t=a∧T=[])∨
 (k=23∧0<a∧md=2∧f=Gb l a false∧t=a∧T=[])
theorem vJ {n c a f t:Nat}{l T:List Int}(hl:Bl w A n c l)(hA:A=none→c=0)(hn:n≤200)(ha:a≤n)(hc:yG md l n a k f t T):
 Calls Tryz.prog 85 #[.agg #[.slice A n c,.int .i64 (a:Int)],.int .i64 md,.int .i64 k] w (gK (l.take f++T++l.drop t) (f+T.length) w):=by
 have HL:=A6 hl;have hlen:=A6 hl.len;have hnc:=hl.ncap;have hcm:=hl.nmax;unfold maxLen at hcm;have hbf:Gb l a false≤a:=Mj (by rw[hlen.out];exact ha)
 have hft:f≤n∧t≤n∧f≤t:=by rcases hc with h|h|h|h|h|h|h|h|h<;>omega
 have hT:T.length≤1:=by rcases hc with⟨_,_,_,_,_,rfl⟩|⟨_,_,_,_,_,_,rfl⟩|⟨_,_,_,_,_,rfl⟩|⟨_,_,_,_,_,rfl⟩|⟨_,_,_,_,_,rfl⟩|⟨_,_,_,_,rfl⟩|⟨_,_,_,_,rfl⟩|⟨_,_,_,_,_,rfl⟩|⟨_,_,_,_,_,rfl⟩<;>simp
 obtain⟨W,hW,hx,hz,b3,b6⟩:∃W,W=(w.alloc (.cells #[.slice A n c,.int .i64 (a:Int)] 32)).alloc (.cells #[.slice none 0 0,.int .i64 0] 32)∧An w W∧W.heap.size=w.heap.size+2∧
  Aq W w.heap.size 32 #[.slice A n c,.int .i64 (a:Int)]∧Aq W (w.heap.size+1) 32 #[.slice none 0 0,.int .i64 0]:=
  ⟨_,rfl,(An.alloc _ _).to_alloc _,by simp,(Aq.new w _ _).ext (An.alloc _ _),by
   have h:=Aq.new (w.alloc (.cells #[.slice A n c,.int .i64 (a:Int)] 32)) 32 #[.slice none 0 0,.int .i64 0]
   rwa[World.size_alloc]at h⟩
 have t1:decide ((200:Int)<(n:Int))=false:=by simp;omega
 have t3:((a:Int)<0)=False:=by simp
 have t4:decide (n<a)=false:=by simp;omega
 have t5:decide ((n:Int)<(a:Int))=false:=by simp;omega
 have HBk:Hid (∀wx,An w wx→Calls Tryz.prog 133 #[.slice A n c,.int .i64 (a:Int),.bool false] wx fun e w'=>e=.returned (.tuple #[.int .i64 (Gb l a false:Int),.int .i64 0])∧An wx w'):=A6 fun wx he=>aF (k:=a) (big:=false) (hl.ext he) (by omega) ha
 obtain⟨c0,c1⟩:=L0 b3;generalize hM:l.take f++T++l.drop t=M;have HC:Hid (∀(wq:World) (S TA:Option Addr) (tc:Nat),An w wq→Bl wq TA T.length tc T→Rd wq 1 S 3 3 [.slice A f c,.slice TA T.length tc,.slice (if c=t then A else Option.map (fun x=>x.add t) A) (n-t) (c-t)]→Calls Tryz.prog 134 #[.slice S 3 3] wq fun e w'=>∃u,e=.returned u∧(∃B m d,u=.slice B m d∧Av w' wq.heap.size B m d M)∧An wq w'):=A6 (fun wq S TA tc he hI hS=>by
  have hl:=HL.out.ext he;have h1:=Y9 hS (Q1.three (hl.front hft.1) hI (hl.cut hft.2.1 (Aj n))) rfl (by
   have:=hlen.out;simp;omega)
  refine h1.mono fun e w' ⟨B,m,d,h2,h3,h4⟩=>⟨_,h2,⟨B,m,d,rfl,?_⟩,h4⟩
  have:(l.take f::T::[(l.drop t).take (n-t)]).flatten=l.take f++T++l.drop t:=by
   have hh:(l.drop t).take (n-t)=l.drop t:=List.take_of_length_le (by rw[List.length_drop,hlen.out];exact Aj _)
   rw[hh];simp
  rw[←hM,←this];exact h3)
 clear hM;have hfc:f≤c:=by omega
 have htc:t≤c:=by omega
 clear hl hbf;have HFT:=A6 hft;clear hft;rcases hc with⟨⟨h1,h2⟩,rfl,h3,hf,ht,rfl⟩|⟨⟨h1,h2⟩,rfl,h3,hf0,hf,ht,rfl⟩|⟨⟨h1,h2⟩,rfl,h3,hf,ht,rfl⟩|⟨rfl,h3,rfl,hf,ht,rfl⟩|⟨rfl,h3,rfl,hf,ht,rfl⟩|⟨rfl,hf,rfl,ht,rfl⟩|⟨rfl,hf,rfl,ht,rfl⟩|⟨rfl,h3,rfl,hf,ht,rfl⟩|⟨rfl,h3,rfl,hf,ht,rfl⟩
 all_goals
  first
   |(have E9:Hid (((a:Int)-1)=(f:Int)):=A6 (by omega);have E10:Hid ((a:Int)=(t:Int)):=A6 (by omega))
   |(have E9:Hid ((a:Int)=(f:Int)):=A6 (by omega);have E10:Hid ((a:Int)=(t:Int)):=A6 (by omega))
   |(have E9:Hid ((a:Int)=(f:Int)):=A6 (by omega);have E10:Hid (((a:Int)+1)=(t:Int)):=A6 (by omega))
   |(have E9:Hid ((0:Int)=(f:Int)):=A6 (by omega);have E10:Hid ((a:Int)=(t:Int)):=A6 (by omega))
   |(have E9:Hid ((Gb l a false:Int)=(f:Int)):=A6 (by omega);have E10:Hid ((a:Int)=(t:Int)):=A6 (by omega))
  try(have t6:(k !=127)=true:=by simpa using h2)
  try(have t2:((n:Int)==200)=false:=by simp;omega)
  try(have t7:((a:Int)==0)=false:=by simp;omega)
  try(have t8:decide (a<n)=false:=by have:=hf0;simp;omega)
  try clear hf0
  clear hf ht;go_enter Tryz.func85,Tryz.ntmps85
  go_upto_region 1 with fail
  rw[←hW];clear hW;go_upto_region 6 with fail
  go_quiet (fail)
  have hx0:An w (W.drewN nq):=hx.trans (An.drewN W nq);have b3':=b3.ext (An.drewN W nq);have b6':=b6.ext (An.drewN W nq);have hzV:w.heap.size+2≤(W.drewN nq).heap.size:=Nat.le_of_eq hz.symm;clear c0 c1 b3 b6 hx hz;generalize W.drewN nq=V0 at*;obtain⟨e0,e1⟩:=L0 b3'
 all_goals
  first
   |(
    go_wp2_with fail
    refine(HBk.out _ hx0).mono ?_
    rintro e V ⟨rfl,hE⟩;replace hx0:=hx0.trans hE;replace b3':=b3'.ext hE;replace b6':=b6'.ext hE;replace hzV:=Ar hzV hE.hsize;clear e0 e1 hE HBk;obtain⟨e0,e1⟩:=L0 b3';go_upto_region 25 with fail)
   |(
    go_upto_region 25 with fail
    clear HBk;generalize V0=V at *)
 all_goals
  clear e0 e1;have hft:=HFT.out;have hft1:=hft.1;have hft2:=hft.2.1;clear hft
 iterate 3
  focus
   have hE:=An.alloc V (.cells #[.int .i64 k] 3);have hI:Bl (V.alloc (.cells #[.int .i64 k] 3)) (some ⟨V.heap.size,0,none⟩) 1 1 [k]:=Bl.litAt V 3 [k] rfl rfl (by omega)
   replace hx0:=hx0.trans hE;replace b3':=b3'.ext hE;replace b6':=b6'.ext hE;replace hzV:=Ar hzV hE.hsize;clear hE;generalize (some ⟨V.heap.size,0,none⟩:Option Addr)=TA at*;generalize World.alloc _ _=V3 at*;refine wp_region_held_drew (S:=fun w'=>An w w'∧Aq w' w.heap.size 32 #[.slice A n c,.int .i64 (a:Int)]) (by kernel_rfl) ⟨hx0.to_drew,b3'⟩ (fun hS=>?_)
   refine Bf (i:=0) (v:=(.pointer (some ⟨w.heap.size,0,none⟩))) rfl hS ?_
   refine Fs (i:=1) (v:=(.slice A n c)) rfl (fun w' hSw=>by have q0:=hSw.2.cell 0;simp only[Ah,Af,Ag]at q0;go_simp) hS ?_
   refine Fs (i:=2) (v:=(.int .i64 (f:Int))) rfl (fun w' hSw=>by have e9:=E9.out;go_simp) hS ?_
   refine Bf (i:=3) (v:=(.slice A f c)) rfl hS ?_
   refine Bf (i:=4) (v:=(.slice TA 1 1)) rfl hS ?_
   refine Bf (i:=5) (v:=(.pointer (some ⟨w.heap.size,0,none⟩))) rfl hS ?_
   refine Fs (i:=6) (v:=(.slice A n c)) rfl (fun w' hSw=>by have q0:=hSw.2.cell 0;simp only[Ah,Af,Ag]at q0;go_simp) hS ?_
   refine Fs (i:=7) (v:=(.int .i64 (t:Int))) rfl (fun w' hSw=>by have e10:=E10.out;go_simp) hS ?_
   refine Bf (i:=8) (v:=(.slice (if c=t then A else Option.map (fun x=>x.add t) A) (n-t) (c-t))) rfl hS ?_
   refine Fs (i:=11) (v:=(.int .i64 (f:Int))) rfl (fun w' hSw=>by have e9:=E9.out;go_simp) hS ?_
   refine Bf (i:=12) (v:=(.slice TA 1 1)) rfl hS ?_
   refine Bf (i:=13) (v:=(.int .i64 1)) rfl hS ?_
   refine Fs (i:=14) (v:=(.int .i64 ((f:Int)+1))) rfl (fun w' hSw=>by have hwr:IntKind.i64.wrap ((f:Int)+1)=(f:Int)+1:=IntWalk.i64_in _ (by omega);go_simp) hS ?_
   have b6d:Aq V3.drew (w.heap.size+1) 32 #[.slice none 0 0,.int .i64 0]:=b6';have hId:Bl V3.drew TA 1 1 [k]:=hI;have hzd:w.heap.size+2≤V3.drew.heap.size:=hzV;clear b6' hI hx0 b3' hzV;generalize V3.drew=cur at*;refine wpAnyH_ready (rs:=[9]) (by decide +kernel) (by simp) (Ai rfl (fun K hK=>?_) Am)
   go_simp
   have hE:=An.alloc cur (.cells #[.slice A f c,.slice TA 1 1,.slice (if c=t then A else Option.map (fun x=>x.add t) A) (n-t) (c-t)] 25)
   have hR:=Rd.litAtConc cur 25 [.slice A f c,.slice TA 1 1,.slice (if c=t then A else Option.map (fun x=>x.add t) A) (n-t) (c-t)] rfl rfl (show(3:Nat)≤1000 by omega)
   refine hK.out _ _ ⟨hS.1.trans hE,hS.2.ext hE⟩ (fun hS'=>?_)
   clear hK K;replace hS:=hS';replace hId:=hId.ext hE;replace b6d:=b6d.ext hE;replace hzd:=Ar hzd hE.hsize;clear hS' hE;generalize World.alloc _ _=cu2 at*
   try simp only[Ac,Aa,Ab,Ap,A7,Ad,Ae]
   refine wpAnyH_ready (rs:=[10]) (by decide +kernel) (by simp) (Ai rfl (fun K hK=>?_) Am)
   refine Cg rfl 134 #[.slice (some ⟨cur.heap.size,0,none⟩) 3 3] rfl (by kernel_rfl) (fun u w'=>∃B m d,u=.slice B m d∧Av w' cu2.heap.size B m d M) (HC.out _ _ _ _ hS.1 hId hR) ?_
   rintro u w3 ⟨B,m,d,rfl,ho⟩ hE;refine hK.out _ _ ⟨hS.1.trans hE,hS.2.ext hE⟩ (fun hS'=>?_)
   clear hK K;replace hS:=hS';replace b6d:=b6d.ext hE;clear hS' hE hId hR
   try simp only[Ac,Aa,Ab,Ap,A7,Ad,Ae]
   refine Bf (i:=15) (v:=(.agg #[.slice B m d,.int .i64 ((f:Int)+1)])) rfl hS ?_
   obtain⟨q0,q1⟩:=L0 b6d;obtain⟨f0,f1⟩:=Re b6d;refine wpAnyH_ready (rs:=[16]) (by decide +kernel) (by simp) (Ai rfl (fun K hK=>?_) Am)
   go_simp
   refine hK.out _ _ ⟨Pj hS.1 (show w.heap.size≤w.heap.size+1 by omega) _ _,Bn (g':=w.heap.size+1) (Bn (g':=w.heap.size+1) hS.2 (by omega) 0 _) (by omega) 1 _⟩ (fun hS'=>?_)
   have HF:=A6 (Pk b6d (.slice B m d) (.int .i64 ((f:Int)+1)));have HO:=A6 (U2 ho (show w.heap.size+1<cu2.heap.size by omega) (.slice B m d) (.int .i64 ((f:Int)+1)))
   unfold tH at HF HO;clear hK K q0 q1 f0 f1 b6d ho hS;generalize Bh (Bh _ _ _) _ _=W9 at*
   try simp only[Ac,Aa,Ab,Ap,A7,Ad,Ae]
   refine wpAnyH_ready (rs:=[17]) (by decide +kernel) (by simp) (Ai rfl (fun K hK=>?_) Am)
   go_simp
   refine hK.out _ _ hS' (fun _=>?_)
   clear hK K;refine wpAnyH_done (by kernel_rfl) ?_ _
   have HX:=A6 hS'.1;clear hS';go_wp2_with fail
   all_goals
    refine bodyPost_ret (v:=.tuple #[.agg #[.slice B m d,.int .i64 ((f:Int)+1)],.int .i64 0]) ?_ rfl ⟨HX.out,B,m,d,rfl,Bd.lower HO.out (by omega)⟩
    exact I64
 all_goals
  have hI:=Bl.none_ V;refine wp_region_held_drew (S:=fun w'=>An w w'∧Aq w' w.heap.size 32 #[.slice A n c,.int .i64 (a:Int)]) (by kernel_rfl) ⟨hx0.to_drew,b3'⟩ (fun hS=>?_)
  refine Bf (i:=0) (v:=(.pointer (some ⟨w.heap.size,0,none⟩))) rfl hS ?_
  refine Fs (i:=1) (v:=(.slice A n c)) rfl (fun w' hSw=>by have q0:=hSw.2.cell 0;simp only[Ah,Af,Ag]at q0;go_simp) hS ?_
  refine Fs (i:=2) (v:=(.int .i64 (f:Int))) rfl (fun w' hSw=>by have e9:=E9.out;go_simp) hS ?_
  refine Bf (i:=3) (v:=(.slice A f c)) rfl hS ?_
  refine Bf (i:=4) (v:=(.slice none 0 0)) rfl hS ?_
  refine Bf (i:=5) (v:=(.pointer (some ⟨w.heap.size,0,none⟩))) rfl hS ?_
  refine Fs (i:=6) (v:=(.slice A n c)) rfl (fun w' hSw=>by have q0:=hSw.2.cell 0;simp only[Ah,Af,Ag]at q0;go_simp) hS ?_
  refine Fs (i:=7) (v:=(.int .i64 (t:Int))) rfl (fun w' hSw=>by have e10:=E10.out;go_simp) hS ?_
  refine Bf (i:=8) (v:=(.slice (if c=t then A else Option.map (fun x=>x.add t) A) (n-t) (c-t))) rfl hS ?_
  refine Fs (i:=11) (v:=(.int .i64 (f:Int))) rfl (fun w' hSw=>by have e9:=E9.out;go_simp) hS ?_
  refine Bf (i:=12) (v:=(.slice none 0 0)) rfl hS ?_
  refine Bf (i:=13) (v:=(.int .i64 0)) rfl hS ?_
  refine Fs (i:=14) (v:=(.int .i64 (f:Int))) rfl (fun w' hSw=>by have hwr:IntKind.i64.wrap (f:Int)=(f:Int):=IntWalk.i64_in _ (by omega);go_simp) hS ?_
  have b6d:Aq V.drew (w.heap.size+1) 32 #[.slice none 0 0,.int .i64 0]:=b6';have hId:Bl V.drew none 0 0 []:=hI;have hzd:w.heap.size+2≤V.drew.heap.size:=hzV;clear b6' hI hx0 b3' hzV;generalize V.drew=cur at*;refine wpAnyH_ready (rs:=[9]) (by decide +kernel) (by simp) (Ai rfl (fun K hK=>?_) Am)
  go_simp
  have hE:=An.alloc cur (.cells #[.slice A f c,.slice none 0 0,.slice (if c=t then A else Option.map (fun x=>x.add t) A) (n-t) (c-t)] 25)
  have hR:=Rd.litAtConc cur 25 [.slice A f c,.slice none 0 0,.slice (if c=t then A else Option.map (fun x=>x.add t) A) (n-t) (c-t)] rfl rfl (show(3:Nat)≤1000 by omega)
  refine hK.out _ _ ⟨hS.1.trans hE,hS.2.ext hE⟩ (fun hS'=>?_)
  clear hK K;replace hS:=hS';replace hId:=hId.ext hE;replace b6d:=b6d.ext hE;replace hzd:=Ar hzd hE.hsize;clear hS' hE;generalize World.alloc _ _=cu2 at*
  try simp only[Ac,Aa,Ab,Ap,A7,Ad,Ae]
  refine wpAnyH_ready (rs:=[10]) (by decide +kernel) (by simp) (Ai rfl (fun K hK=>?_) Am)
  refine Cg rfl 134 #[.slice (some ⟨cur.heap.size,0,none⟩) 3 3] rfl (by kernel_rfl) (fun u w'=>∃B m d,u=.slice B m d∧Av w' cu2.heap.size B m d M) (HC.out _ _ _ _ hS.1 hId hR) ?_
  rintro u w3 ⟨B,m,d,rfl,ho⟩ hE;refine hK.out _ _ ⟨hS.1.trans hE,hS.2.ext hE⟩ (fun hS'=>?_)
  clear hK K;replace hS:=hS';replace b6d:=b6d.ext hE;clear hS' hE hId hR
  try simp only[Ac,Aa,Ab,Ap,A7,Ad,Ae]
  refine Bf (i:=15) (v:=(.agg #[.slice B m d,.int .i64 (f:Int)])) rfl hS ?_
  obtain⟨q0,q1⟩:=L0 b6d;obtain⟨f0,f1⟩:=Re b6d;refine wpAnyH_ready (rs:=[16]) (by decide +kernel) (by simp) (Ai rfl (fun K hK=>?_) Am)
  go_simp
  refine hK.out _ _ ⟨Pj hS.1 (show w.heap.size≤w.heap.size+1 by omega) _ _,Bn (g':=w.heap.size+1) (Bn (g':=w.heap.size+1) hS.2 (by omega) 0 _) (by omega) 1 _⟩ (fun hS'=>?_)
  have HF:=A6 (Pk b6d (.slice B m d) (.int .i64 (f:Int)));have HO:=A6 (U2 ho (show w.heap.size+1<cu2.heap.size by omega) (.slice B m d) (.int .i64 (f:Int)))
  unfold tH at HF HO;clear hK K q0 q1 f0 f1 b6d ho hS;generalize Bh (Bh _ _ _) _ _=W9 at*
  try simp only[Ac,Aa,Ab,Ap,A7,Ad,Ae]
  refine wpAnyH_ready (rs:=[17]) (by decide +kernel) (by simp) (Ai rfl (fun K hK=>?_) Am)
  go_simp
  refine hK.out _ _ hS' (fun _=>?_)
  clear hK K;refine wpAnyH_done (by kernel_rfl) ?_ _
  have HX:=A6 hS'.1;clear hS';go_wp2_with fail
  all_goals
   refine bodyPost_ret (v:=.tuple #[.agg #[.slice B m d,.int .i64 (f:Int)],.int .i64 0]) ?_ rfl ⟨HX.out,B,m,d,rfl,Bd.lower HO.out (by omega)⟩
   exact I64
def NoC (md:Int)(n a:Nat)(k:Int):Prop:=
 ((32≤k∧k≠127)∧md=1∧n=200)∨((32≤k∧k≠127)∧md=2∧n=200∧a=n)∨
 (((k<32∧k≠8∧k≠21)∧k≠23)∧md=1)∨(((k<32∧k≠8∧k≠21)∧k≠23)∧md=2)∨
 (k=8∧a=0∧md=1)∨(k=8∧a=0∧md=2)∨(k=127∧a=0∧md=1)∨(k=127∧a=0∧md=2)∨
 (k=21∧a=0∧md=1)∨(k=21∧a=0∧md=2)∨(k=23∧a=0∧md=1)∨(k=23∧a=0∧md=2)
theorem J0e (hnc:n≤c)(hcm:c≤maxLen)(hn:n≤200)(ha:a≤n)(hc:NoC md n a k):
 Calls Tryz.prog 85 #[.agg #[.slice A n c,.int .i64 (a:Int)],.int .i64 md,.int .i64 k] w (xV w):=by
 have N0:=trivial;exact K28
theorem qV {l:List Int}{k:Int}(hl:Bl w A n c l)(hA:A=none→c=0)(hn:n≤200)(ha:a≤n)(h0:0<a)(hk:k=8∨k=127):
 Calls Tryz.prog 85 #[.agg #[.slice A n c,.int .i64 (a:Int)],.int .i64 2,.int .i64 k] w (gK l (a-1) w):=by
 have N1:=trivial;exact K28
def Jn (md:Int)(l:List Int)(a:Nat)(k:Int):Option (List Int×Nat):=
 if 32≤k∧k≠127 then
  if md=2∧a<l.length then some (l.take a++[k]++l.drop (a+1),a+1)
  else if l.length=200 then none else some (l.take a++[k]++l.drop a,a+1)
 else if k≠8∧k≠127∧k≠21∧k≠23 then none
 else if a=0 then none
 else if k=21 then some (l.take 0++[]++l.drop a,0)
 else if k=23 then some (l.take (Gb l a false)++[]++l.drop a,Gb l a false)
 else if md=2 then some (l,a-1)
 else some (l.take (a-1)++[]++l.drop a,a-1)
def yE (o:Option (List Int×Nat))(w:World)(e:Ending)(w':World):Prop:=
 match o with
 |some (m,b)=>gK m b w e w'
 |none=>xV w e w'
theorem vL {l:List Int}(hl:Bl w A n c l)(hA:A=none→c=0)(hn:n≤200)(ha:a≤n)(hmd:md=1∨md=2):
 Calls Tryz.prog 85 #[.agg #[.slice A n c,.int .i64 (a:Int)],.int .i64 md,.int .i64 k] w (yE (Jn md l a k) w):=by
 have hlen:=hl.len;have no:NoC md n a k→Jn md l a k=none→Calls Tryz.prog 85 #[.agg #[.slice A n c,.int .i64 (a:Int)],.int .i64 md,.int .i64 k] w (yE (Jn md l a k) w):=fun h1 h2=>by
  rw[h2];exact J0e hl.ncap hl.nmax hn ha h1
 have cut:∀(f t:Nat) (T:List Int),yG md l n a k f t T→Jn md l a k=some (l.take f++T++l.drop t,f+T.length)→Calls Tryz.prog 85 #[.agg #[.slice A n c,.int .i64 (a:Int)],.int .i64 md,.int .i64 k] w (yE (Jn md l a k) w):=fun f t T h1 h2=>by
  rw[h2];exact vJ hl hA hn ha h1
 by_cases h1:32≤k∧k≠127
 ·by_cases h2:md=2∧a<l.length
  ·exact cut a (a+1) [k] (.inr (.inr (.inl ⟨h1,h2.1,by omega,rfl,rfl,rfl⟩))) (by unfold Jn;rw[if_pos h1,if_pos h2];rfl)
  ·by_cases h3:l.length=200
   ·exact no (hmd.elim (fun h=>.inl ⟨h1,h,by omega⟩) (fun h=>.inr (.inl ⟨h1,h,by omega,by omega⟩))) (by unfold Jn;rw[if_pos h1,if_neg h2,if_pos h3])
   ·refine cut a a [k] ?_ (by unfold Jn;rw[if_pos h1,if_neg h2,if_neg h3];rfl)
    unfold yG;rcases hmd with h|h
    ·exact .inl ⟨h1,h,by omega,rfl,rfl,rfl⟩
    ·exact .inr (.inl ⟨h1,h,by omega,by omega,rfl,rfl,rfl⟩)
 ·by_cases h2:k≠8∧k≠127∧k≠21∧k≠23
  ·exact no (hmd.elim (fun h=>.inr (.inr (.inl ⟨⟨⟨by omega,h2.1,h2.2.2.1⟩,h2.2.2.2⟩,h⟩))) (fun h=>.inr (.inr (.inr (.inl ⟨⟨⟨by omega,h2.1,h2.2.2.1⟩,h2.2.2.2⟩,h⟩))))) (by unfold Jn;rw[if_neg h1,if_pos h2])
  ·by_cases h3:a=0
   ·exact no (by unfold NoC;rcases(show k=8∨k=127∨k=21∨k=23 by omega)with h|h|h|h<;>rcases hmd with g|g<;>simp[h,g,h3]) (by unfold Jn;rw[if_neg h1,if_neg h2,if_pos h3])
   ·by_cases h4:k=21
    ·exact cut 0 a [] (hmd.elim (fun h=>.inr (.inr (.inr (.inl ⟨h4,by omega,h,rfl,rfl,rfl⟩)))) (fun h=>.inr (.inr (.inr (.inr (.inl ⟨h4,by omega,h,rfl,rfl,rfl⟩)))))) (by unfold Jn;rw[if_neg h1,if_neg h2,if_neg h3,if_pos h4];rfl)
    ·by_cases h5:k=23
     ·exact cut (Gb l a false) a [] (hmd.elim (fun h=>.inr (.inr (.inr (.inr (.inr (.inr (.inr (.inl ⟨h5,by omega,h,rfl,rfl,rfl⟩)))))))) (fun h=>.inr (.inr (.inr (.inr (.inr (.inr (.inr (.inr ⟨h5,by omega,h,rfl,rfl,rfl⟩))))))))) (by unfold Jn;rw[if_neg h1,if_neg h2,if_neg h3,if_neg h4,if_pos h5];rfl)
     ·by_cases h6:md=2
      ·have e:Jn md l a k=some (l,a-1):=by unfold Jn;rw[if_neg h1,if_neg h2,if_neg h3,if_neg h4,if_neg h5,if_pos h6]
       rw[e,h6];exact qV hl hA hn ha (by omega) (by omega)
      ·exact cut (a-1) a [] ((show k=8∨k=127 by omega).elim (fun h=>.inr (.inr (.inr (.inr (.inr (.inl ⟨h,by omega,by omega,rfl,rfl⟩)))))) (fun h=>.inr (.inr (.inr (.inr (.inr (.inr (.inl ⟨h,by omega,by omega,rfl,rfl⟩)))))))) (by unfold Jn;rw[if_neg h1,if_neg h2,if_neg h3,if_neg h4,if_neg h5,if_neg h6];rfl)
end
