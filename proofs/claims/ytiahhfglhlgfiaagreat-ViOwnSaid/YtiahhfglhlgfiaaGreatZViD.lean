/-
  Part ZViD.
-/
import Derived.Test.YtiahhfglhlgfiaaGreatZTk
import Derived.Test.YtiahhfglhlgfiaaGreatZHisC
import Derived.Test.YtiahhfglhlgfiaaGreatZSeg
set_option maxRecDepth 100000
set_option maxHeartbeats 16000000
set_option linter.unusedVariables false
set_option linter.unusedSimpArgs false
namespace Go.Proofs.YtiahhfglhlgfiaaGreat
open Go.RowKit
open Act renaming put→Am
open AllReadyH renaming cons→Ah,nil→Ak
open _root_.List renaming getElem?_cons_succ→Af,getElem?_cons_zero→Ae,getElem?_toArray→Ag,getElem_cons_succ→Aa,getElem_cons_zero→A7,getElem_toArray→Ab,setIfInBounds_toArray→A6,set_cons_succ→Ad,set_cons_zero→Ac
open _root_.Nat renaming le_refl→Ai,le_trans→Ap
open Value renaming slice→Aj
open World renaming setCell→Bb
section
variable {xs:List Value}{base e z n c g t:Nat}{cs:Array Value}{A:Option Addr}{w x:World}
theorem Ri:(Tryz.prog.info? 59).map (fun i=>(i.zero,i.size,i.bytes))=some (some (.agg #[.pointer none,.int .i64 0]),2,16):=by kernel_rfl
theorem Rk {n c:Nat}(hl:Rd w 2 A n c xs)(h1:∀u∈xs,u.oneCell'=true)(hA:A=none→c=0)(hb:n≤2000000):
 Calls Tryz.prog 124 #[.slice A n c] w fun e w'=>∃B d,e=.returned (.slice B n d)∧Ay w' w.heap.size 59 2 B n d xs∧Al w w':=by
 obtain⟨i0,hi,hz0,hz1,hz2⟩:=info_parts Ri;have hlen:=hl.len;have hnc:=hl.ncap;have hcm:=hl.nmax;have HB:=A4 hb;clear hb;unfold maxLen at hcm;have hq:∀w1:World,(binOp .eql 60 (.slice A n c) (.slice none 0 0)).run Tryz.prog w1=.ok (.bool A.isNone) w1:=fun w1=>Lib.run_eql_slice_nil w1 60 59 A n c 0 0 Tryz.underlying60
 rcases A with _|ad
 ·obtain rfl:=hA rfl
  obtain rfl:n=0:=by omega
  obtain rfl:xs=[]:=List.eq_nil_of_length_eq_zero (by omega)
  clear HB hi hz0 hz1 hz2;go_enter Tryz.func124,Tryz.ntmps124
  go_wp2_with fail
  go_ret
  exact⟨none,0,rfl,Ay.nil _ _ _ _,Al.refl _⟩
 ·have hn:=A4 hlen
  clear hlen hA;go_enter Tryz.func124,Tryz.ntmps124
  have hown0:Ay (w.alloc (.cells #[] 59)) w.heap.size 59 2 (some ⟨w.heap.size,0,none⟩) 0 0 []:=
   ⟨rfl,.inr ⟨w.heap.size,0,#[],rfl,Ai _,heap_alloc_new w _,Ai _,Nat.zero_le _,rfl,rfl⟩⟩
  have hx0:=Al.alloc w (.cells #[] 59);go_wp2_with (at_builtin;refine Fn rfl (.tmp 5) (.tmp 6) 60 rfl w w.heap.size 59 i0 (.agg #[.pointer none,.int .i64 0]) 2 16 Tryz.underlying60 hi hz0 hz1 hz2 rfl (by decide) _ 0 0 [] rfl hown0 _ n c _ rfl (hl.ext hx0) ?_ ?_ ?_ hx0 (Ai _) hx0.hsize ?_)
  ·exact h1
  ·have:=HB.out;unfold maxLen;omega
  ·have:=HB.out;omega
  ·intro A' c' w' hown' hgr hor he'
   clear hgr hown0 hx0 hor;go_wp2_with fail
   go_ret
   exact⟨A',c',rfl,by simpa using hown',he'⟩
def Md (n:Nat)(xs:List Value)(q:Option Addr)(a:Int):List Value:=(xs++[Value.pointer q,Value.int .i64 a]).drop (2*(n+1-30))
theorem yP (w:World)(t:TypeId)(u v:Value){g:Nat}(hg:g=w.heap.size):Rd (w.alloc (.cells #[u,v] t)) 2 (some ⟨g,0,none⟩) 1 1 [u,v]:=by
 subst hg;refine⟨rfl,Ai _,by unfold maxLen;omega,fun _=>⟨_,rfl,fun j x hx=>?_⟩⟩
 have:(⟨w.heap.size,0,none⟩:Addr).add j=⟨w.heap.size,j,none⟩:=by simp[Addr.add_lit]
 rw[this,(An.new w t #[u,v]).cell j]
 simpa using hx
theorem Mh (h:Ay w base e z A n c xs)(hb:An w g t cs)(hne:t≠e):(Aj A n c).ownBlock≠some g:=by
 intro hk;rcases h.2 with⟨hv,_⟩|⟨g',cap,cur,hv,_,hg,_⟩
 ·rw[hv]at hk;cases hk
 ·rw[hv]at hk
  have hk:some g'=some g:=hk;injection hk with hk;subst hk;unfold An at hb;rw[hb]at hg;injection hg with hg;injection hg with _ hg;exact hne hg
theorem xR {w w':World}(hg:w.grownBy w' (Aj A n c).ownBlock)(hb:An w g t cs)(h:Ay w base e z A n c xs)(hne:t≠e):An w' g t cs:=hb.grown hg fun e'=>Mh h hb hne e'.symm
theorem Ds {g t:Nat}{a' b':Value}(h:An w g t #[a',b'])(a b:Value):An ((w.setCell ⟨g,0,none⟩ a).setCell ⟨g,1,none⟩ b) g t #[a,b]:=(h.set_ 0 a).set_ 1 b
theorem Dr {w0 w:World}{g:Nat}(h:Al w0 w)(hg:w0.heap.size≤g)(a b:Value):Al w0 ((w.setCell ⟨g,0,none⟩ a).setCell ⟨g,1,none⟩ b):=(h.setCell (p:=⟨g,0,none⟩) hg a).setCell (p:=⟨g,1,none⟩) hg b
theorem Hm (h:Ay w base e z A n c xs)(hb:An w g t cs)(hne:t≠e)(a b:Value):Ay ((w.setCell ⟨g,0,none⟩ a).setCell ⟨g,1,none⟩ b) base e z A n c xs:=
 Ay.same h fun k hk=>by
  have hkg:k≠g:=fun e=>Mh h hb hne (e▸hk)
  rw[Cd hkg,Cd hkg]
theorem yQ {t:TypeId}{u v:Value}(_:Al w (x.alloc (.cells #[u,v] t))):Rd (x.alloc (.cells #[u,v] t)) 2 (some ⟨x.heap.size,0,none⟩) 1 1 [u,v]:=yP x t u v rfl
theorem fI {t:TypeId}(_:Al w (x.alloc (.cells cs t))):An (x.alloc (.cells cs t)) x.heap.size t cs:=An.new x t cs
theorem L2 {o:Obj}(_:Al w (x.alloc o)):Al x (x.alloc o):=Al.alloc x o
theorem uI {g t g' t':Nat}{cs cs':Array Value}(h:An w g t cs)(_:An w g' t' cs')(hne:g'≠g)(i:Nat)(u:Value):An (w.setCell ⟨g',i,none⟩ u) g t cs:=Bh h hne i u
theorem eI (h:Ay w base e z A n c xs)(hb:An w g t cs)(hne:t≠e)(i:Nat)(a:Value):Ay (w.setCell ⟨g,i,none⟩ a) base e z A n c xs:=
 Ay.same h fun k hk=>Cd fun e=>Mh h hb hne (by rw[hk];exact congrArg some e)
theorem Jt {P:Program}{fn:Func}{p:Tmp}{ty:TypeId}(h:fn.results=#[.cell p ty])(tmps:Array Value)(w:World)(g:Nat)(t:TypeId)(cs:Array Value)(fr:Nat×Nat)(d:TypeDesc)
 (hp:tmps.getD p undef=.pointer (some ⟨g,0,none⟩)) (hg:w.heap[g]? = some (.cells cs t fr))
 (hu:P.underlying ty=some d) (hd:(match d with|.struct _|.array _ _=>true|_=>false)=true) (hi:(P.info? ty).map (·.size)=some cs.size):
 (results fn tmps).run P w=.ok (.agg cs) w:=by
 have hp':tmps[p]?.getD undef=.pointer (some ⟨g,0,none⟩):=by simpa using hp
 simp[results,h,hp',asAddr,run_loadVar_row w g t ty cs fr d hg hu hd hi]
theorem wD {A q:Option Addr}{n c:Nat}{a:Int}(hl:Rd w 2 A n c xs)(h1:∀u∈xs,u.oneCell'=true)(hA:A=none→c=0)(hb:n≤30):
 Calls Tryz.prog 112 #[.agg #[.slice A n c,.slice none 0 0],.int .i64 30,.agg #[.pointer q,.int .i64 a]] w fun e w'=>
  ∃A' c',e=.returned (.agg #[.slice A' (min 30 (n+1)) c',.slice none 0 0])∧Ay w' w.heap.size 59 2 A' (min 30 (n+1)) c' (Md n xs q a)∧Al w w':=by
 obtain⟨i0,hi,hz0,hz1,hz2⟩:=info_parts Ri;obtain⟨W,hW,hx,hz,b3,b5,b6⟩:∃W,W=((w.alloc (.cells #[.slice A n c,.slice none 0 0] 62)).alloc (.cells #[.pointer q,.int .i64 a] 59)).alloc (.cells #[.slice none 0 0,.slice none 0 0] 62)∧Al w W∧W.heap.size=w.heap.size+3∧
  An W w.heap.size 62 #[.slice A n c,.slice none 0 0]∧An W (w.heap.size+1) 59 #[.pointer q,.int .i64 a]∧An W (w.heap.size+1+1) 62 #[.slice none 0 0,.slice none 0 0]:=by
  have h1:=An.new w 62 #[.slice A n c,.slice none 0 0];have x1:=Al.alloc w (.cells #[.slice A n c,.slice none 0 0] 62);have z1:(w.alloc (.cells #[.slice A n c,.slice none 0 0] 62)).heap.size=w.heap.size+1:=by simp
  generalize w.alloc (.cells #[.slice A n c,.slice none 0 0] 62)=W1 at*;have h2:=An.new W1 59 #[.pointer q,.int .i64 a];have x2:=Al.alloc W1 (.cells #[.pointer q,.int .i64 a] 59);have z2:(W1.alloc (.cells #[.pointer q,.int .i64 a] 59)).heap.size=w.heap.size+2:=by simp[z1]
  generalize W1.alloc (.cells #[.pointer q,.int .i64 a] 59)=W2 at*;have h3:=An.new W2 62 #[.slice none 0 0,.slice none 0 0];have x3:=Al.alloc W2 (.cells #[.slice none 0 0,.slice none 0 0] 62);rw[z1]at h2;rw[z2]at h3;exact⟨_,rfl,(x1.trans x2).trans x3,by simp[z2],h1.ext (x2.trans x3),h2.ext x3,h3⟩
 have HL:=A4 hl;have H1:=A4 h1;have HA:=A4 hA;have HX:=A4 hx;have B3:=A4 b3;have B5:=A4 b5;have B6:=A4 b6;have HZ:=A4 hz;have HC:Hid (∀wq,Al W wq→Calls Tryz.prog 124 #[.slice A n c] wq fun e w'=>∃B d,e=.returned (.slice B n d)∧Ay w' W.heap.size 59 2 B n d xs∧Al wq w'):=
  A4 fun wq he=>(Rk ((hl.ext hx).ext he) h1 hA (by omega)).mono fun e w' ⟨B,d,h1,h2,h3⟩=>⟨B,d,h1,Ay.lower h2 he.hsize,h3⟩
 clear hl h1 hA hx b3 b5 b6 hz;go_enter Tryz.func112,Tryz.ntmps112
 go_upto_region 1 with fail
 rw[←hW];clear hW;refine wp_region_held_drew (S:=fun w'=>Al W w') (by kernel_rfl) (Al.drew W) (fun hS=>?_)
 refine B8 (i:=0) (v:=(.pointer (some ⟨w.heap.size,0,none⟩))) rfl hS ?_
 refine F4 (i:=1) (v:=(.slice A n c)) rfl (fun w' hSw=>by have c0:w'.cell? ⟨w.heap.size,0,none⟩=some (.slice A n c):=(B3.out.ext hSw).cell 0;go_simp) hS ?_
 refine F4 (i:=3) (v:=(.agg #[.pointer q,.int .i64 a])) rfl (fun w' hSw=>by have c0:w'.cell? ⟨w.heap.size+1,0,none⟩=some (.pointer q):=(B5.out.ext hSw).cell 0;have c1:w'.cell? ⟨w.heap.size+1,1,none⟩=some (.int .i64 a):=(B5.out.ext hSw).cell 1;go_simp) hS ?_
 generalize W.drew=cur at*
 iterate 4
  all_goals (first|refine wpAnyH_ready (rs:=[2,4,7]) (by decide +kernel) (by simp) (Ah rfl (fun K hK=>?_) (Ah rfl (fun K hK=>?_) (Ah rfl (fun K hK=>?_) Ak)))|refine wpAnyH_ready (rs:=[4,7]) (by decide +kernel) (by simp) (Ah rfl (fun K hK=>?_) (Ah rfl (fun K hK=>?_) Ak))|refine wpAnyH_ready (rs:=[2,7]) (by decide +kernel) (by simp) (Ah rfl (fun K hK=>?_) (Ah rfl (fun K hK=>?_) Ak))|refine wpAnyH_ready (rs:=[2,4]) (by decide +kernel) (by simp) (Ah rfl (fun K hK=>?_) (Ah rfl (fun K hK=>?_) Ak))|refine wpAnyH_ready (rs:=[5,7]) (by decide +kernel) (by simp) (Ah rfl (fun K hK=>?_) (Ah rfl (fun K hK=>?_) Ak))|refine wpAnyH_ready (rs:=[7]) (by decide +kernel) (by simp) (Ah rfl (fun K hK=>?_) Ak)|refine wpAnyH_ready (rs:=[2]) (by decide +kernel) (by simp) (Ah rfl (fun K hK=>?_) Ak)|refine wpAnyH_ready (rs:=[4]) (by decide +kernel) (by simp) (Ah rfl (fun K hK=>?_) Ak)|refine wpAnyH_ready (rs:=[5]) (by decide +kernel) (by simp) (Ah rfl (fun K hK=>?_) Ak))
  all_goals (first
   |(
    refine C9 rfl 124 #[.slice A n c] rfl (by kernel_rfl) (fun v w'=>∃B d,v=.slice B n d∧Ay w' W.heap.size 59 2 B n d xs) ((HC.out _ hS).mono fun e w' ⟨B,d,h1,h2,h3⟩=>⟨_,h1,⟨B,d,rfl,h2⟩,h3⟩) ?_
    rintro v w2 ⟨B,d,rfl,ho⟩ hE;refine hK.out _ _ (hS.trans hE) (fun hS'=>?_)
    clear hK K
    try replace hr:=Rd.ext hr hE
    try replace hb7:=An.ext hb7 hE
    try replace hO3:=Ay.ext hO3 hE
    replace hS:=hS';clear hS' hE
    try simp only[Ab,A7,Aa,Am,A6,Ac,Ad])
   |(
    refine Q6 rfl (.tmp 11) (.tmp 13) 60 rfl W W.heap.size 59 i0 _ 2 16 Tryz.underlying60 hi hz0 hz1 hz2 rfl (by decide) B n d xs rfl ho _ 1 1 [.pointer q,.int .i64 a] rfl hr (by simp[Value.oneCell']) (by unfold maxLen;omega) (by omega) hS (Ai _) hS.hsize ?_
    intro A2 c2 w3 hO3 hgr _ he3;refine hK.out _ _ he3 (fun hS'=>?_)
    clear hK K
    try replace hb7:=xR hgr hb7 ho (by decide)
    replace hS:=hS';clear hS' hgr ho hr he3
    try simp only[Ab,A7,Aa,Am,A6,Ac,Ad]
    refine wpAnyH_take (i:=6) (v:=.agg #[.slice A2 (n+1) c2,.slice none 0 0]) rfl (by kernel_rfl) (by kernel_rfl) (by kernel_rfl) (fun _ _ _ h=>h) (Or.inl ⟨by rfl,by(intro w' hSw;go_simp)⟩) hS ?_
    try simp only[Ab,A7,Aa,Am,A6,Ac,Ad])
   |(
    go_simp
    refine hK.out _ _ (hS.to_alloc (.cells #[.pointer q,.int .i64 a] 59)) (fun hS'=>?_)
    clear hK K;have hE:=L2 hS'
    try replace ho:=Ay.ext ho hE
    try replace hr:=Rd.ext hr hE
    try replace hb7:=An.ext hb7 hE
    try replace hO3:=Ay.ext hO3 hE
    have hr:=yQ hS';replace hS:=hS';clear hS' hE;generalize World.alloc _ _=nx at*
    try simp only[Ab,A7,Aa,Am,A6,Ac,Ad])
   |(
    go_simp
    refine hK.out _ _ (hS.to_alloc (.cells #[.slice none 0 0,.slice none 0 0] 62)) (fun hS'=>?_)
    clear hK K;have hE:=L2 hS'
    try replace ho:=Ay.ext ho hE
    try replace hr:=Rd.ext hr hE
    try replace hb7:=An.ext hb7 hE
    try replace hO3:=Ay.ext hO3 hE
    have hb7:=fI hS';have hz7:=hS.hsize;replace hS:=hS';clear hS' hE;generalize World.alloc _ _=nx at*
    try simp only[Ab,A7,Aa,Am,A6,Ac,Ad]))
 all_goals
  have e70:=hb7.cell 0;have e71:=hb7.cell 1;have f70:=hb7.frozen 0;have f71:=hb7.frozen 1;simp only[Ag,Ae,Af]at e70 e71;refine wpAnyH_ready (rs:=[8]) (by decide +kernel) (by simp) (Ah rfl (fun K hK=>?_) Ak)
  go_simp
  have B7:=Ds hb7 (.slice A2 (n+1) c2) (.slice none 0 0);have O7:=Hm hO3 hb7 (by decide) (.slice A2 (n+1) c2) (.slice none 0 0)
  have X7:=Dr hS hz7 (.slice A2 (n+1) c2) (.slice none 0 0);generalize Bb (Bb _ _ _) _ _=W4 at B7 O7 X7 ⊢;refine hK.out _ _ X7 (fun _=>?_)
  clear hK K e70 e71 f70 f71 hb7 hO3;refine wpAnyH_done (by kernel_rfl) ?_ _
  have b6:=B6.out.ext X7;have c70:=B7.cell 0;have c71:=B7.cell 1;have f70:=B7.frozen 0;have c60:=b6.cell 0;have c61:=b6.cell 1;have f60:=b6.frozen 0;have f61:=b6.frozen 1;simp only[Ag,Ae,Af]at c70 c71 c60 c61;have hzz:=HZ.out;have hcn:=Rd.ncap (Ay.rd O7);have hcm:=Rd.nmax (Ay.rd O7);unfold maxLen at hcm;rcases(show n≤29∨n=30 by omega)with h|rfl
  ·have hmin:min 30 (n+1)=n+1:=by omega
   have hk:Md n xs q a=xs++[.pointer q,.int .i64 a]:=by unfold Md;rw[show n+1-30=0 by omega];rfl
   have O9:=A4 (Hm O7 b6 (by decide) (.slice A2 (n+1) c2) (.slice none 0 0))
   have X9:=A4 (Dr (HX.out.trans X7) (show w.heap.size≤w.heap.size+1+1 by omega) (.slice A2 (n+1) c2) (.slice none 0 0))
   have B9:=A4 (Ds b6 (.slice A2 (n+1) c2) (.slice none 0 0));have HM:=A4 hmin;have HK:=A4 hk;clear b6 O7 X7 B7 hmin hk;go_wp2_with fail
   rw[HM.out,HK.out];refine bodyPost_ret (Jt rfl _ _ _ _ _ _ _ rfl B9.out Tryz.underlying62 rfl (by kernel_rfl)) rfl ⟨A2,c2,rfl,Ay.lower O9.out HX.out.hsize,X9.out⟩
  ·obtain⟨ad,rfl,_⟩:=(Ay.rd O7).at_ (k:=0) (by omega)
   have hcc:¬c2=1:=by omega
   have hc1:1≤c2:=by omega
   have hrd:Rd W4 2 (some (ad.add 2)) 30 (c2-1) (Md 30 xs q a):=by
    have h:=Rd.cut (Ay.rd O7) (k:=1) (m:=31) (by omega) (by omega)
    rw[if_neg hcc]at h;have e:((xs++[Value.pointer q,.int .i64 a]).drop (1*2)).take ((31-1)*2)=Md 30 xs q a:=by
     unfold Md;refine List.take_of_length_le ?_
     have:=(Ay.rd O7).len;rw[List.length_drop];omega
    rw[e]at h;exact h
   have hone:∀u∈Md 30 xs q a,u.oneCell'=true:=fun u hu=>by
    have hu:=List.mem_of_mem_drop hu;rcases List.mem_append.1 hu with h|h
    ·exact H1.out u h
    ·simp at h;rcases h with rfl|rfl<;>rfl
   have HC2:=A4 (Rk hrd hone nofun (by omega))
   have HB:=A4 B7;have HX4:=A4 X7;have e1:(31-max (30:Int) 0)=1:=by decide
   clear b6 hrd hone;go_wp2_with fail
   try simp only[e1]
   refine HC2.out.mono ?_
   rintro e w5 ⟨B5,d5,rfl,O5,X5⟩;have B7':=HB.out.ext X5;have b6:=B6.out.ext (HX4.out.trans X5);have g70:=B7'.cell 0;have g71:=B7'.cell 1;have v70:=B7'.frozen 0;simp only[Ag,Ae,Af]at g70 g71;have b6':=uI b6 B7' (fun e=>by have:=hz7;omega) 0 (.slice B5 30 d5)
   have O5':=eI O5 B7' (by decide) 0 (.slice B5 30 d5)
   have X5':=((HX.out.trans HX4.out).trans X5).setCell (p:=⟨_,0,none⟩) (Ap HX.out.hsize hz7) (.slice B5 30 d5);have hO6:=A4 (Hm O5' b6' (by decide) (.slice B5 30 d5) (.slice none 0 0))
   have hX6:=A4 (Dr X5' (show w.heap.size≤w.heap.size+1+1 by omega) (.slice B5 30 d5) (.slice none 0 0))
   have hB6:=A4 (Ds b6' (.slice B5 30 d5) (.slice none 0 0));have c60:=b6'.cell 0;have c61:=b6'.cell 1;have f60:=b6'.frozen 0;have f61:=b6'.frozen 1;have hz5:=A4 (Ap HX.out.hsize HX4.out.hsize);simp only[Ag,Ae,Af]at c60 c61;clear b6 b6' B7' O5 O5' X5 X5' c70 c71 f70;go_wp2_with fail
   refine bodyPost_ret (Jt rfl _ _ _ _ _ _ _ rfl hB6.out Tryz.underlying62 rfl (by kernel_rfl)) rfl ⟨B5,d5,rfl,Ay.lower hO6.out hz5.out,hX6.out⟩
end
