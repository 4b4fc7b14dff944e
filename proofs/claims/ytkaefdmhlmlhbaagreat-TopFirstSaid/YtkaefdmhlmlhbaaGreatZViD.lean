/-
  Part ZViD.
-/
import Derived.Test.YtkaefdmhlmlhbaaGreatZHisC
import Derived.Test.YtkaefdmhlmlhbaaGreatZSeg
import Derived.Test.YtkaefdmhlmlhbaaGreatZTk
set_option maxRecDepth 100000
set_option maxHeartbeats 16000000
set_option linter.unusedVariables false
set_option linter.unusedSimpArgs false
namespace Go.Proofs.YtkaefdmhlmlhbaaGreat
open Go.RowKit
open _root_.Go.Proofs.Tryz
open Act renaming put→Ao
open AllReadyH renaming cons→Ai,nil→Am
open _root_.List renaming getElem?_cons_succ→Ag,getElem?_cons_zero→Af,getElem?_toArray→Ah,getElem_cons_succ→Ab,getElem_cons_zero→Aa,getElem_toArray→Ac,setIfInBounds_toArray→A7,set_cons_succ→Ae,set_cons_zero→Ad
open _root_.Nat renaming le_refl→Aj,le_trans→Ar
open Value renaming slice→Ak
open World renaming setCell→Bh
section
variable {xs:List Value}{base e z n c g t:Nat}{cs:Array Value}{A:Option Addr}{w x:World}
theorem U4:(prog.info? 92).map (fun i=>(i.zero,i.size,i.bytes))=some (some (.agg #[.pointer none,(0:Int)]),2,16):=by kernel_rfl
theorem U6 {n c:Nat}(hl:Rd w 2 A n c xs)(h1:∀u∈xs,u.oneCell'=true)(hA:A=none→c=0)(hb:n≤2000000):
 Calls prog 179 #[.slice A n c] w fun e w'=>∃B d,e=.returned (.slice B n d)∧Bd w' w.heap.size 92 2 B n d xs∧An w w':=by
 obtain⟨i0,hi,bm,bz,az⟩:=info_parts U4;have ab:=hl.len;have aw:=hl.ncap;have aq:=hl.nmax;have HB:=A6 hb;clear hb;unfold maxLen at aq;have hq:∀w1:World,(binOp .eql 95 (.slice A n c) (.slice none 0 0)).run prog w1=.ok (.bool A.isNone) w1:=fun w1=>Lib.run_eql_slice_nil w1 95 92 A n c 0 0 underlying95
 rcases A with _|ad
 ·obtain rfl:=hA rfl
  obtain rfl:n=0:=by omega
  obtain rfl:xs=[]:=List.eq_nil_of_length_eq_zero (by omega)
  clear HB hi bm bz az;go_enter func179,ntmps179
  go_wp2_with fail
  go_ret
  exact⟨none,0,rfl,Bd.nil _ _ _ _,An.refl _⟩
 ·have hn:=A6 ab
  clear ab hA;go_enter func179,ntmps179
  have dg:Bd (w.alloc (.cells #[] 92)) w.heap.size 92 2 (some ⟨w,0,none⟩) 0 0 []:=
   ⟨rfl,.inr ⟨w,0,#[],rfl,Aj _,heap_alloc_new w _,Aj _,Nat.zero_le _,rfl,rfl⟩⟩
  have am:=An.alloc w (.cells #[] 92);go_wp2_with (at_builtin;refine Eh rfl (.tmp 5) (.tmp 6) 95 rfl w w.heap.size 92 i0 (.agg #[.pointer none,(0:Int)]) 2 16 underlying95 hi bm bz az rfl (by decide) _ 0 0 [] rfl dg _ n c _ rfl (hl.ext am) ?_ ?_ ?_ am (Aj _) am.hsize ?_)
  ·exact h1
  ·have:=HB.out;unfold maxLen;omega
  ·have:=HB.out;omega
  ·intro A' c' w' ce av cf fw
   clear av dg am cf;go_wp2_with fail
   go_ret
   exact⟨A',c',rfl,by simpa using ce,fw⟩
def Pm (n:Nat)(xs:List Value)(q:Option Addr)(a:Int):List Value:=(xs++[Value.pointer q,Value.int .i64 a]).drop (2*(n+1-30))
theorem J6y (w:World)(t:TypeId)(u v:Value){g:Nat}(hg:g=w.heap.size):Rd (w.alloc (.cells #[u,v] t)) 2 (some ⟨g,0,none⟩) 1 1 [u,v]:=by
 subst hg;refine⟨rfl,Aj _,by unfold maxLen;omega,fun _=>⟨_,rfl,fun j x hx=>?_⟩⟩
 have:(⟨w,0,none⟩:Addr).add j=⟨w,j,none⟩:=by simp[Addr.add_lit]
 rw[this,(Aq.new w t #[u,v]).cell j]
 simpa using hx
theorem Pq (h:Bd w base e z A n c xs)(hb:Aq w g t cs)(ai:t≠e):(Ak A n c).ownBlock≠some g:=by
 intro hk;rcases h.2 with⟨hv,_⟩|⟨g',cap,cur,hv,_,hg,_⟩
 ·rw[hv]at hk;cases hk
 ·rw[hv]at hk
  have hk:some g'=some g:=hk;injection hk with hk;subst hk;unfold Aq at hb;rw[hb]at hg;injection hg with hg;injection hg with _ hg;exact ai hg
theorem J6i {w w':World}(hg:w.grownBy w' (Ak A n c).ownBlock)(hb:Aq w g t cs)(h:Bd w base e z A n c xs)(ai:t≠e):Aq w' g t cs:=hb.grown hg fun e'=>Pq h hb ai e'.symm
theorem Ee {g t:Nat}{a' b':Value}(h:Aq w g t #[a',b'])(a b:Value):Aq ((w.setCell ⟨g,0,none⟩ a).setCell ⟨g,1,none⟩ b) g t #[a,b]:=(h.set_ 0 a).set_ 1 b
theorem Ed {w0 w:World}{g:Nat}(h:An w0 w)(hg:w0.heap.size≤g)(a b:Value):An w0 ((w.setCell ⟨g,0,none⟩ a).setCell ⟨g,1,none⟩ b):=(h.setCell (p:=⟨g,0,none⟩) hg a).setCell (p:=⟨g,1,none⟩) hg b
theorem Jw (h:Bd w base e z A n c xs)(hb:Aq w g t cs)(ai:t≠e)(a b:Value):Bd ((w.setCell ⟨g,0,none⟩ a).setCell ⟨g,1,none⟩ b) base e z A n c xs:=
 Bd.same h fun k hk=>by
  have hkg:k≠g:=fun e=>Pq h hb ai (e▸hk)
  rw[Cs hkg,Cs hkg]
theorem J6z {t:TypeId}{u v:Value}(_:An w (x.alloc (.cells #[u,v] t))):Rd (x.alloc (.cells #[u,v] t)) 2 (some ⟨x,0,none⟩) 1 1 [u,v]:=J6y x t u v rfl
theorem lY {t:TypeId}(_:An w (x.alloc (.cells cs t))):Aq (x.alloc (.cells cs t)) x.heap.size t cs:=Aq.new x t cs
theorem Ms {o:Obj}(_:An w (x.alloc o)):An x (x.alloc o):=An.alloc x o
theorem J3e {g t g' t':Nat}{cs cs':Array Value}(h:Aq w g t cs)(_:Aq w g' t' cs')(ai:g'≠g)(i:Nat)(u:Value):Aq (w.setCell ⟨g',i,none⟩ u) g t cs:=Bn h ai i u
theorem kR (h:Bd w base e z A n c xs)(hb:Aq w g t cs)(ai:t≠e)(i:Nat)(a:Value):Bd (w.setCell ⟨g,i,none⟩ a) base e z A n c xs:=
 Bd.same h fun k hk=>Cs fun e=>Pq h hb ai (by rw[hk];exact congrArg some e)
theorem Lh {P:Program}{fn:Func}{p:Tmp}{ty:TypeId}(h:fn.results=#[.cell p ty])(tmps:Array Value)(w:World)(g:Nat)(t:TypeId)(cs:Array Value)(fr:Nat×Nat)(d:TypeDesc)
 (hp:tmps.getD p undef=.pointer (some ⟨g,0,none⟩)) (hg:w.heap[g]? = some (.cells cs t fr))
 (hu:P.underlying ty=some d) (hd:(match d with|.struct _|.array _ _=>true|_=>false)=true) (hi:(P.info? ty).map (·.size)=some cs.size):
 (results fn tmps).run P w=.ok (.agg cs) w:=by
 have ji:tmps[p]?.getD undef=.pointer (some ⟨g,0,none⟩):=by simpa using hp
 simp[results,h,ji,asAddr,run_loadVar_row w g t ty cs fr d hg hu hd hi]
theorem J4z {A q:Option Addr}{n c:Nat}{a:Int}(hl:Rd w 2 A n c xs)(h1:∀u∈xs,u.oneCell'=true)(hA:A=none→c=0)(hb:n≤30):
 Calls prog 164 #[.agg #[.slice A n c,()],.int .i64 30,.agg #[.pointer q,a]] w fun e w'=>
  ∃A' c',e=.returned (.agg #[.slice A' (min 30 (n+1)) c',()])∧Bd w' w.heap.size 92 2 A' (min 30 (n+1)) c' (Pm n xs q a)∧An w w':=by
 obtain⟨i0,hi,bm,bz,az⟩:=info_parts U4;obtain⟨W,hW,hx,hz,b3,b5,b6⟩:∃W,W=((w.alloc (.cells #[.slice A n c,()] 97)).alloc (.cells #[.pointer q,a] 92)).alloc (.cells #[(),()] 97)∧An w W∧W.heap.size=w.heap.size+3∧
  Aq W w.heap.size 97 #[.slice A n c,.slice none 0 0]∧Aq W (w.heap.size+1) 92 #[.pointer q,.int .i64 a]∧Aq W (w.heap.size+1+1) 97 #[.slice none 0 0,.slice none 0 0]:=by
  have h1:=Aq.new w 97 #[.slice A n c,.slice none 0 0];have x1:=An.alloc w (.cells #[.slice A n c,()] 97);have z1:(w.alloc (.cells #[.slice A n c,()] 97)).heap.size=w.heap.size+1:=by simp
  generalize w.alloc (.cells #[.slice A n c,()] 97)=W1 at*;have h2:=Aq.new W1 92 #[.pointer q,.int .i64 a];have x2:=An.alloc W1 (.cells #[.pointer q,a] 92);have z2:(W1.alloc (.cells #[.pointer q,a] 92)).heap.size=w.heap.size+2:=by simp[z1]
  generalize W1.alloc (.cells #[.pointer q,a] 92)=W2 at*;have h3:=Aq.new W2 97 #[.slice none 0 0,.slice none 0 0];have x3:=An.alloc W2 (.cells #[(),()] 97);rw[z1]at h2;rw[z2]at h3;exact⟨_,rfl,(x1.trans x2).trans x3,by simp[z2],h1.ext (x2.trans x3),h2.ext x3,h3⟩
 have HL:=A6 hl;have H1:=A6 h1;have HA:=A6 hA;have HX:=A6 hx;have B3:=A6 b3;have B5:=A6 b5;have B6:=A6 b6;have HZ:=A6 hz;have HC:Hid (∀wq,An W wq→Calls prog 179 #[.slice A n c] wq fun e w'=>∃B d,e=.returned (.slice B n d)∧Bd w' W.heap.size 92 2 B n d xs∧An wq w'):=
  A6 fun wq he=>(U6 ((hl.ext hx).ext he) h1 hA (by omega)).mono fun e w' ⟨B,d,h1,h2,h3⟩=>⟨B,d,h1,Bd.lower h2 he.hsize,h3⟩
 clear hl h1 hA hx b3 b5 b6 hz;go_enter func164,ntmps164
 go_upto_region 1 with fail
 rw[←hW];clear hW;refine wp_region_held_drew (S:=fun w'=>An W w') (by kernel_rfl) (An.drew W) (fun hS=>?_)
 refine Bf (i:=0) (v:=some w.heap.size) rfl hS ?_
 refine Ga (i:=1) (v:=(.slice A n c)) rfl (fun w' ag=>by have c0:w'.cell? ⟨w,0,none⟩=some (.slice A n c):=(B3.out.ext ag).cell 0;go_simp) hS ?_
 refine Ga (i:=3) (v:=(.agg #[.pointer q,a])) rfl (fun w' ag=>by have c0:w'.cell? ⟨w.heap.size+1,0,none⟩=some (.pointer q):=(B5.out.ext ag).cell 0;have c1:w'.cell? ⟨w.heap.size+1,1,none⟩=some (.int .i64 a):=(B5.out.ext ag).cell 1;go_simp) hS ?_
 generalize W.drew=cur at*
 iterate 4
  all_goals (first|refine wpAnyH_ready (rs:=[2,4,7]) (by decide +kernel) (by simp) (Ai rfl (fun K hK=>?_) (Ai rfl (fun K hK=>?_) (Ai rfl (fun K hK=>?_) Am)))|refine wpAnyH_ready (rs:=[4,7]) (by decide +kernel) (by simp) (Ai rfl (fun K hK=>?_) (Ai rfl (fun K hK=>?_) Am))|refine wpAnyH_ready (rs:=[2,7]) (by decide +kernel) (by simp) (Ai rfl (fun K hK=>?_) (Ai rfl (fun K hK=>?_) Am))|refine wpAnyH_ready (rs:=[2,4]) (by decide +kernel) (by simp) (Ai rfl (fun K hK=>?_) (Ai rfl (fun K hK=>?_) Am))|refine wpAnyH_ready (rs:=[5,7]) (by decide +kernel) (by simp) (Ai rfl (fun K hK=>?_) (Ai rfl (fun K hK=>?_) Am))|refine wpAnyH_ready (rs:=[7]) (by decide +kernel) (by simp) (Ai rfl (fun K hK=>?_) Am)|refine wpAnyH_ready (rs:=[2]) (by decide +kernel) (by simp) (Ai rfl (fun K hK=>?_) Am)|refine wpAnyH_ready (rs:=[4]) (by decide +kernel) (by simp) (Ai rfl (fun K hK=>?_) Am)|refine wpAnyH_ready (rs:=[5]) (by decide +kernel) (by simp) (Ai rfl (fun K hK=>?_) Am))
  all_goals (first
   |(
    refine Cl rfl 179 #[.slice A n c] rfl (by kernel_rfl) (fun v w'=>∃B d,v=.slice B n d∧Bd w' W.heap.size 92 2 B n d xs) ((HC.out _ hS).mono fun e w' ⟨B,d,h1,h2,h3⟩=>⟨_,h1,⟨B,d,rfl,h2⟩,h3⟩) ?_
    rintro v w2 ⟨B,d,rfl,ho⟩ hE;refine hK.out _ _ (hS.trans hE) (fun ao=>?_)
    clear hK K
    try replace hr:=Rd.ext hr hE
    try replace ia:=Aq.ext ia hE
    try replace cv:=Bd.ext cv hE
    replace hS:=ao;clear ao hE
    try simp only[Ac,Aa,Ab,Ao,A7,Ad,Ae])
   |(
    refine So rfl (.tmp 11) (.tmp 13) 95 rfl W W.heap.size 92 i0 _ 2 16 underlying95 hi bm bz az rfl (by decide) B n d xs rfl ho _ 1 1 [.pointer q,.int .i64 a] rfl hr (by simp[Value.oneCell']) (by unfold maxLen;omega) (by omega) hS (Aj _) hS.hsize ?_
    intro A2 c2 w3 cv av _ cu;refine hK.out _ _ cu (fun ao=>?_)
    clear hK K
    try replace ia:=J6i av ia ho (by decide)
    replace hS:=ao;clear ao av ho hr cu
    try simp only[Ac,Aa,Ab,Ao,A7,Ad,Ae]
    refine wpAnyH_take (i:=6) (v:=.agg #[.slice A2 (n+1) c2,()]) rfl (by kernel_rfl) (by kernel_rfl) (by kernel_rfl) (fun _ _ _ h=>h) (Or.inl ⟨by rfl,by(intro w' ag;go_simp)⟩) hS ?_
    try simp only[Ac,Aa,Ab,Ao,A7,Ad,Ae])
   |(
    go_simp
    refine hK.out _ _ (hS.to_alloc (.cells #[.pointer q,a] 92)) (fun ao=>?_)
    clear hK K;have hE:=Ms ao
    try replace ho:=Bd.ext ho hE
    try replace hr:=Rd.ext hr hE
    try replace ia:=Aq.ext ia hE
    try replace cv:=Bd.ext cv hE
    have hr:=J6z ao;replace hS:=ao;clear ao hE;generalize World.alloc _ _=nx at*
    try simp only[Ac,Aa,Ab,Ao,A7,Ad,Ae])
   |(
    go_simp
    refine hK.out _ _ (hS.to_alloc (.cells #[(),()] 97)) (fun ao=>?_)
    clear hK K;have hE:=Ms ao
    try replace ho:=Bd.ext ho hE
    try replace hr:=Rd.ext hr hE
    try replace ia:=Aq.ext ia hE
    try replace cv:=Bd.ext cv hE
    have ia:=lY ao;have XW:=hS.hsize;replace hS:=ao;clear ao hE;generalize World.alloc _ _=nx at*
    try simp only[Ac,Aa,Ab,Ao,A7,Ad,Ae]))
 all_goals
  have e70:=ia.cell 0;have e71:=ia.cell 1;have f70:=ia.frozen 0;have f71:=ia.frozen 1;simp only[Ah,Af,Ag]at e70 e71;refine wpAnyH_ready (rs:=[8]) (by decide +kernel) (by simp) (Ai rfl (fun K hK=>?_) Am)
  go_simp
  have B7:=Ee ia (.slice A2 (n+1) c2) (.slice none 0 0);have O7:=Jw cv ia (by decide) (.slice A2 (n+1) c2) (.slice none 0 0)
  have X7:=Ed hS XW (.slice A2 (n+1) c2) (.slice none 0 0);generalize Bh (Bh _ _ _) _ _=W4 at B7 O7 X7 ⊢;refine hK.out _ _ X7 (fun _=>?_)
  clear hK K e70 e71 f70 f71 ia cv;refine wpAnyH_done (by kernel_rfl) ?_ _
  have b6:=B6.out.ext X7;have c70:=B7.cell 0;have c71:=B7.cell 1;have f70:=B7.frozen 0;have c60:=b6.cell 0;have c61:=b6.cell 1;have f60:=b6.frozen 0;have f61:=b6.frozen 1;simp only[Ah,Af,Ag]at c70 c71 c60 c61;have hzz:=HZ.out;have VV:=Rd.ncap (Bd.rd O7);have aq:=Rd.nmax (Bd.rd O7);unfold maxLen at aq;rcases(show n≤29∨n=30 by omega)with h|rfl
  ·have rn:min 30 (n+1)=n+1:=by omega
   have hk:Pm n xs q a=xs++[.pointer q,.int .i64 a]:=by unfold Pm;rw[show n+1-30=0 by omega];rfl
   have O9:=A6 (Jw O7 b6 (by decide) (.slice A2 (n+1) c2) (.slice none 0 0))
   have X9:=A6 (Ed (HX.out.trans X7) (show w.heap.size≤w.heap.size+1+1 by omega) (.slice A2 (n+1) c2) (.slice none 0 0))
   have B9:=A6 (Ee b6 (.slice A2 (n+1) c2) (.slice none 0 0));have HM:=A6 rn;have HK:=A6 hk;clear b6 O7 X7 B7 rn hk;go_wp2_with fail
   rw[HM.out,HK.out];refine bodyPost_ret (Lh rfl _ _ _ _ _ _ _ rfl B9.out underlying97 rfl (by kernel_rfl)) rfl ⟨A2,c2,rfl,Bd.lower O9.out HX.out.hsize,X9.out⟩
  ·obtain⟨ad,rfl,_⟩:=(Bd.rd O7).at_ (k:=0) (by omega)
   have sw:¬c2=1:=by omega
   have bh:1≤c2:=by omega
   have rg:Rd W4 2 (some (ad.add 2)) 30 (c2-1) (Pm 30 xs q a):=by
    have h:=Rd.cut (Bd.rd O7) (k:=1) (m:=31) (by omega) (by omega)
    rw[if_neg sw]at h;have e:((xs++[Value.pointer q,.int .i64 a]).drop (1*2)).take ((31-1)*2)=Pm 30 xs q a:=by
     unfold Pm;refine List.take_of_length_le ?_
     have:=(Bd.rd O7).len;rw[List.length_drop];omega
    rw[e]at h;exact h
   have cm:∀u∈Pm 30 xs q a,u.oneCell'=true:=fun u hu=>by
    have hu:=List.mem_of_mem_drop hu;rcases List.mem_append.1 hu with h|h
    ·exact H1.out u h
    ·simp at h;rcases h with rfl|rfl<;>rfl
   have lu:=A6 (U6 rg cm nofun (by omega))
   have HB:=A6 B7;have jy:=A6 X7;have e1:(31-max (30:Int) 0)=1:=by decide
   clear b6 rg cm;go_wp2_with fail
   try simp only[e1]
   refine lu.out.mono ?_
   rintro e w5 ⟨B5,d5,rfl,O5,X5⟩;have KB:=HB.out.ext X5;have b6:=B6.out.ext (jy.out.trans X5);have g70:=KB.cell 0;have g71:=KB.cell 1;have v70:=KB.frozen 0;simp only[Ah,Af,Ag]at g70 g71;have fb:=J3e b6 KB (fun e=>by have:=XW;omega) 0 (.slice B5 30 d5)
   have O5':=kR O5 KB (by decide) 0 (.slice B5 30 d5)
   have FP:=((HX.out.trans jy.out).trans X5).setCell (p:=⟨_,0,none⟩) (Ar HX.out.hsize XW) (.slice B5 30 d5);have rj:=A6 (Jw O5' fb (by decide) (.slice B5 30 d5) (.slice none 0 0))
   have DV:=A6 (Ed FP (show w.heap.size≤w.heap.size+1+1 by omega) (.slice B5 30 d5) (.slice none 0 0))
   have GS:=A6 (Ee fb (.slice B5 30 d5) (.slice none 0 0));have c60:=fb.cell 0;have c61:=fb.cell 1;have f60:=fb.frozen 0;have f61:=fb.frozen 1;have mu:=A6 (Ar HX.out.hsize jy.out.hsize);simp only[Ah,Af,Ag]at c60 c61;clear b6 fb KB O5 O5' X5 FP c70 c71 f70;go_wp2_with fail
   refine bodyPost_ret (Lh rfl _ _ _ _ _ _ _ rfl GS.out underlying97 rfl (by kernel_rfl)) rfl ⟨B5,d5,rfl,Bd.lower rj.out mu.out,DV.out⟩
end
