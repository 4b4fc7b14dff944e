/-
  Part ZViE.
-/
import Derived.Test.YtkaefdmhlmlhbaaGreatZViD
import Derived.Test.YtkaefdmhlmlhbaaGreatZEdK
import Derived.IntWalk
set_option maxRecDepth 100000
set_option maxHeartbeats 16000000
set_option linter.unusedVariables false
set_option linter.unusedSimpArgs false
namespace Go.Proofs.YtkaefdmhlmlhbaaGreat
open Go.RowKit
open _root_.Go.Proofs.Tryz
open Act renaming put→Ao
open AllReadyH renaming cons→Ai,nil→Am
open _root_.List renaming getElem?_cons_succ→Ag,getElem?_cons_zero→Af,getElem?_toArray→Ah,getElem_cons_succ→Ab,getElem_cons_zero→Aa,getElem_toArray→Ac,setIfInBounds_toArray→A7,set_cons_succ→Ae,set_cons_zero→Ad
section
variable {w:World}{xs:List Value}{A:Option Addr}{n c:Nat}
theorem jP (w:World):Calls prog 179 #[.slice none 0 0] w fun e w'=>e=.returned (.slice none 0 0)∧w=w':=by
 have hq:∀w1:World,(binOp .eql 95 (.slice none 0 0) (.slice none 0 0)).run prog w1=.ok (.bool (none:Option Addr).isNone) w1:=fun w1=>Lib.run_eql_slice_nil w1 95 92 none 0 0 0 0 underlying95
 go_enter func179,ntmps179
 go_wp2_with fail
 go_ret
 exact⟨rfl,rfl⟩
theorem Xy (hl:Rd w 2 A n c xs)(h1:∀u∈xs,u.oneCell'=true)(hA:A=none→c=0)(hb:n≤2000000):
 Calls prog 165 #[.agg #[.slice A n c,()]] w fun e w'=>∃v,e=.returned v∧(∃B d,v=.agg #[.slice B n d,()]∧Bd w' w.heap.size 92 2 B n d xs)∧An w w':=by
 obtain⟨W,hW,hx,hz,b1,b2⟩:∃W,W=(w.alloc (.cells #[.slice A n c,()] 97)).alloc (.cells #[(),()] 97)∧An w W∧W.heap.size=w.heap.size+2∧
  Aq W w.heap.size 97 #[.slice A n c,.slice none 0 0]∧Aq W (w.heap.size+1) 97 #[.slice none 0 0,.slice none 0 0]:=
  ⟨_,rfl,(An.alloc _ _).to_alloc _,by simp,(Aq.new w _ _).ext (An.alloc _ _),by
   have h:=Aq.new (w.alloc (.cells #[.slice A n c,()] 97)) 97 #[.slice none 0 0,.slice none 0 0]
   rwa[World.size_alloc]at h⟩
 have HX:=A6 hx;have B1:=A6 b1;have B2:=A6 b2;have HC:Hid (∀wq,An w wq→Calls prog 179 #[.slice A n c] wq fun e w'=>∃B d,e=.returned (.slice B n d)∧Bd w' w.heap.size 92 2 B n d xs∧An wq w'):=
  A6 fun wq he=>(U6 (hl.ext he) h1 hA hb).mono fun e w' ⟨B,d,h1,h2,h3⟩=>⟨B,d,h1,Bd.lower h2 he.hsize,h3⟩
 clear hl h1 hA hb hx b1 b2;go_enter func165,ntmps165
 go_upto_region 1 with fail
 rw[←hW];clear hW;have zd:Hid (An w W.drew∧Aq W.drew w.heap.size 97 #[.slice A n c,.slice none 0 0]):=A6 ⟨HX.out.to_drew,B1.out⟩;have ak:Aq W.drew (w.heap.size+1) 97 #[.slice none 0 0,.slice none 0 0]:=B2.out;refine wp_region_held_drew (S:=fun w'=>An w w'∧Aq w' w.heap.size 97 #[.slice A n c,.slice none 0 0]) (by kernel_rfl) zd.out (fun hS=>?_)
 refine Bf (i:=0) (v:=some w.heap.size) rfl hS ?_
 refine Ga (i:=1) (v:=(.slice A n c)) rfl (fun w' ag=>by have c0:w'.cell? ⟨w,0,none⟩=some (.slice A n c):=ag.2.cell 0;go_simp) hS ?_
 refine Bf (i:=3) (v:=(.pointer (some ⟨w,1,none⟩))) rfl hS ?_
 refine Ga (i:=4) (v:=()) rfl (fun w' ag=>by have c0:w'.cell? ⟨w,1,none⟩=some (.slice none 0 0):=ag.2.cell 1;go_simp) hS ?_
 clear zd B1 B2 HX;generalize W.drew=cur at*;refine wpAnyH_ready (rs:=[2]) (by decide +kernel) (by simp) (Ai rfl (fun K hK=>?_) Am)
 refine Cl rfl 179 #[.slice A n c] rfl (by kernel_rfl) (fun v w'=>∃B d,v=.slice B n d∧Bd w' w.heap.size 92 2 B n d xs) ((HC.out _ hS.1).mono fun e w' ⟨B,d,h1,h2,h3⟩=>⟨_,h1,⟨B,d,rfl,h2⟩,h3⟩) ?_
 rintro v w2 ⟨B,d,rfl,ho⟩ hE;replace ak:=ak.ext hE;refine hK.out _ _ ⟨hS.1.trans hE,hS.2.ext hE⟩ (fun ao=>?_)
 clear hK K;replace hS:=ao;clear ao hE
 try simp only[Ac,Aa,Ab,Ao,A7,Ad,Ae]
 refine wpAnyH_ready (rs:=[5]) (by decide +kernel) (by simp) (Ai rfl (fun K hK=>?_) Am)
 refine Cl rfl 179 #[.slice none 0 0] rfl (by kernel_rfl) (fun v w'=>v=.slice none 0 0) ((jP _).mono fun e w' ⟨h1,h2⟩=>⟨_,h1,rfl,h2▸An.refl _⟩) ?_
 rintro v w3 rfl hE;replace ak:=ak.ext hE;replace ho:=Bd.ext ho hE;refine hK.out _ _ ⟨hS.1.trans hE,hS.2.ext hE⟩ (fun ao=>?_)
 clear hK K;replace hS:=ao;clear ao hE
 try simp only[Ac,Aa,Ab,Ao,A7,Ad,Ae]
 refine Bf (i:=6) (v:=(.agg #[.slice B n d,()])) rfl hS ?_
 have c0:=ak.cell 0;have c1:=ak.cell 1;have f0:=ak.frozen 0;have f1:=ak.frozen 1;simp only[Ah,Af,Ag]at c0 c1;refine wpAnyH_ready (rs:=[7]) (by decide +kernel) (by simp) (Ai rfl (fun K hK=>?_) Am)
 go_simp
 have B7:=Ee ak (.slice B n d) (.slice none 0 0);have O7:=Jw ho ak (by decide) (.slice B n d) (.slice none 0 0)
 have X7:=Ed hS.1 (show w.heap.size≤w.heap.size+1 by omega) (.slice B n d) (.slice none 0 0)
 refine hK.out _ _ ⟨X7,Bn (g':=w.heap.size+1) (Bn (g':=w.heap.size+1) hS.2 (by omega) 0 _) (by omega) 1 _⟩ (fun _=>?_)
 clear hK K;refine wpAnyH_done (by kernel_rfl) ?_ _
 have HB:=A6 B7;have HR:=A6 (And.intro O7 X7);clear B7 O7 X7 hS ho ak c0 c1 f0 f1 HC;go_wp2_with fail
 refine bodyPost_ret (Lh rfl _ _ _ _ _ _ _ rfl HB.out underlying97 rfl (by kernel_rfl)) rfl ⟨_,rfl,⟨B,d,rfl,HR.out.1⟩,HR.out.2⟩
theorem J1v (a:Addr)(k:Nat):(⟨(a.add k).block,(a.add k).off+1,none⟩:Addr)=a.add (k+1):=by
 unfold Addr.add;by_cases h:k=0<;>simp[h,Nat.add_assoc]
theorem iK {q:Option Addr}{a:Int}(hl:Rd w 2 A (n+1) c xs)(h1:xs[n*2]? = some (Value.pointer q))(h2:xs[n*2+1]? = some (Value.int .i64 a)):
 Calls prog 166 #[.slice A (n+1) c] w fun e w'=>e=.returned (.tuple #[.agg #[.pointer q,a],.slice A n c])∧An w w':=by
 have aw:=hl.ncap;have aq:=hl.nmax;unfold maxLen at aq;obtain⟨ad,rfl,hc⟩:=hl.at_ (k:=0) (by omega)
 have c0:=hc _ _ h1;have c1:=hc _ _ h2;have hw:IntKind.i64.wrap (((n+1:Nat):Int)-1)=(n:Int):=by rw[IntWalk.i64_in _ (by omega)];omega
 have hi1:(0:Int)≤(n:Int):=by omega
 have jw:IntKind.i64.wrap (n:Int)=n:=IntWalk.i64_in _ (by omega)
 have hi3:¬((n:Int)+1≤(n:Int)):=by omega
 have kw:n≤c:=by omega
 clear hc hl;go_enter func166,ntmps166
 go_upto_region 1 with fail
 have c1':w.cell? ⟨(ad.add (n*2)).block,(ad.add (n*2)).off+1,none⟩=some (.int .i64 a):=by rw[←c1];exact congrArg _ (J1v ad (n*2))
 have hb:=Aq.new w 92 #[.pointer none,.int .i64 0];have hx:=An.alloc w (.cells #[.pointer none,(0:Int)] 92);generalize w.alloc (.cells #[.pointer none,(0:Int)] 92)=W at*;refine wp_region_held_drew (S:=fun w'=>An w w') (by kernel_rfl) hx.to_drew (fun hS=>?_)
 refine Bf (i:=0) (v:=(.slice (some ad) (n+1) c)) rfl hS ?_
 refine Bf (i:=1) (v:=(.slice (some ad) (n+1) c)) rfl hS ?_
 refine Bf (i:=2) (v:=(.int .i64 ((n+1:Nat):Int))) rfl hS ?_
 refine Bf (i:=3) (v:=n) rfl hS ?_
 refine Bf (i:=4) (v:=(.pointer (some (ad.add (n*2))))) rfl hS ?_
 refine Ga (i:=5) (v:=(.agg #[.pointer q,a])) rfl (fun w' ag=>by have e0:=ag.cell c0;have e1:=ag.cell c1';go_simp) hS ?_
 refine Bf (i:=6) (v:=(.slice (some ad) (n+1) c)) rfl hS ?_
 refine Bf (i:=7) (v:=(.slice (some ad) (n+1) c)) rfl hS ?_
 refine Bf (i:=8) (v:=(.int .i64 ((n+1:Nat):Int))) rfl hS ?_
 refine Bf (i:=9) (v:=n) rfl hS ?_
 refine Bf (i:=10) (v:=(.slice (some ad) n c)) rfl hS ?_
 have og:Aq W.drew w.heap.size 92 #[.pointer none,.int .i64 0]:=hb;clear hb hx;generalize W.drew=cur at*;have d0:=og.cell 0;have d1:=og.cell 1;have f0:=og.frozen 0;have f1:=og.frozen 1;simp only[Ah,Af,Ag]at d0 d1;refine wpAnyH_ready (rs:=[11]) (by decide +kernel) (by simp) (Ai rfl (fun K hK=>?_) Am)
 go_simp
 refine hK.out _ _ (Ed hS (Nat.le_refl _) (.pointer q) (.int .i64 a)) (fun hX=>?_)
 clear hK K;have HB:=A6 (Ee og (.pointer q) (.int .i64 a));have HX:=A6 hX
 try simp only[Ac,Aa,Ab,Ao,A7,Ad,Ae]
 refine wpAnyH_ready (rs:=[12]) (by decide +kernel) (by simp) (Ai rfl (fun K hK=>?_) Am)
 go_simp
 refine hK.out _ _ hX (fun _=>?_)
 refine wpAnyH_done (by kernel_rfl) ?_ _
 clear hK K hX og d0 d1 f0 f1;go_wp2_with fail
 refine bodyPost_ret (v:=.tuple #[.agg #[.pointer q,a],.slice (some ad) n c]) ?_ rfl ⟨rfl,HX.out⟩
 exact Gv rfl _ _ w.heap.size 92 _ _ _ _ rfl rfl HB.out underlying92 rfl (by kernel_rfl)
theorem R6 {P:Program}{fn:Func}{p q r:Tmp}{ty CU:TypeId}(h:fn.results=#[.cell p ty,.cell q CU,.tmp r])(tmps:Array Value)(w:World)(g g':Nat)(t t':TypeId)(cs cs':Array Value)(fr RF:Nat×Nat)(d d':TypeDesc)(v:Value)
 (hp:tmps.getD p undef=.pointer (some ⟨g,0,none⟩)) (hq:tmps.getD q undef=.pointer (some ⟨g',0,none⟩)) (hr:tmps.getD r undef=v) (hg:w.heap[g]? = some (.cells cs t fr)) (cr:w.heap[g']? = some (.cells cs' t' RF))
 (hu:P.underlying ty=some d) (hd:(match d with|.struct _|.array _ _=>true|_=>false)=true) (hi:(P.info? ty).map (·.size)=some cs.size)
 (CV:P.underlying CU=some d') (el:(match d' with|.struct _|.array _ _=>true|_=>false)=true) (hi':(P.info? CU).map (·.size)=some cs'.size):
 (results fn tmps).run P w=.ok (.tuple #[.agg cs,.agg cs',v]) w:=by
 have ji:tmps[p]?.getD undef=.pointer (some ⟨g,0,none⟩):=by simpa using hp
 exact I35
def J2e (w:World):World:={ w with heap:=#[] }
theorem qL (w:World):An (J2e w) w:=⟨rfl,rfl,rfl,Nat.zero_le _,fun k hk=>absurd hk (Nat.not_lt_zero k)⟩
theorem gY {g k:Nat}(h:k≠g)(a b:Value):((w.setCell ⟨g,0,none⟩ a).setCell ⟨g,1,none⟩ b).heap[k]? = w.heap[k]?:=by rw[Cs h,Cs h]
theorem Ey {g t g':Nat}{cs:Array Value}(h:Aq w g t cs)(ai:g'≠g)(a b:Value):Aq ((w.setCell ⟨g',0,none⟩ a).setCell ⟨g',1,none⟩ b) g t cs:=Bn (Bn h ai 0 a) ai 1 b
theorem Bd.popS {base e n c:Nat}(h:Bd w base e 2 A (n+1) c xs):Bd w base e 2 A n c (xs.take (n*2)):=by
 obtain⟨h1,h2⟩:=h;rcases h2 with⟨_,h0⟩|⟨g,cap,cur,hv,hb,hg,aw,mx,wm,ht⟩
 ·omega
 ·injection hv with hA _ hc
  subst hA;subst hc;refine⟨by rw[List.length_take];omega,.inr ⟨g,c,cur,rfl,hb,hg,by omega,mx,wm,?_⟩⟩
  rw[←ht,List.take_take]
  congr 1
  omega
theorem Y4 (w:World)(x y a b:Value):∃W,W=(((w.alloc (.cells #[x,y] 97)).alloc (.cells #[a,b] 92)).alloc (.cells #[(),()] 97)).alloc (.cells #[.pointer none,(0:Int)] 92)∧An w W∧W.heap.size=w.heap.size+4∧
 Aq W w.heap.size 97 #[x,y]∧Aq W (w.heap.size+1) 92 #[a,b]∧Aq W (w.heap.size+1+1) 97 #[.slice none 0 0,.slice none 0 0]∧Aq W (w.heap.size+1+1+1) 92 #[.pointer none,.int .i64 0]:=by
 have h1:=Aq.new w 97 #[x,y];have x1:=An.alloc w (.cells #[x,y] 97);have z1:(w.alloc (.cells #[x,y] 97)).heap.size=w.heap.size+1:=by simp
 generalize w.alloc (.cells #[x,y] 97)=W1 at*;have h2:=Aq.new W1 92 #[a,b];have x2:=An.alloc W1 (.cells #[a,b] 92);have z2:(W1.alloc (.cells #[a,b] 92)).heap.size=w.heap.size+2:=by simp[z1]
 generalize W1.alloc (.cells #[a,b] 92)=W2 at*;have h3:=Aq.new W2 97 #[.slice none 0 0,.slice none 0 0];have x3:=An.alloc W2 (.cells #[(),()] 97);have z3:(W2.alloc (.cells #[(),()] 97)).heap.size=w.heap.size+3:=by simp[z2]
 generalize W2.alloc (.cells #[(),()] 97)=W3 at*;have h4:=Aq.new W3 92 #[.pointer none,.int .i64 0];have x4:=An.alloc W3 (.cells #[.pointer none,(0:Int)] 92);rw[z1]at h2;rw[z2]at h3;rw[z3]at h4;exact⟨_,rfl,((x1.trans x2).trans x3).trans x4,by simp[z3],h1.ext ((x2.trans x3).trans x4),h2.ext (x3.trans x4),h3.ext x4,h4⟩
theorem xF {A q:Option Addr}{c:Nat}{a:Int}(hc:c≤maxLen)(hA:A=none→c=0):
 Calls prog 140 #[.agg #[.slice A 0 c,()],.agg #[.pointer q,a]] w fun e w'=>(∃B d,e=.returned (.tuple #[.agg #[.slice B 0 d,()],.agg #[.pointer q,a],false]))∧An w w':=by
 have N0:=trivial;exact K33
theorem xE {A q r:Option Addr}{a b:Int}(hl:Rd w 2 A (n+1) c xs)(h1:∀u∈xs,u.oneCell'=true)(hb:n≤1000)(k1:xs[n*2]? = some (.pointer r))(k2:xs[n*2+1]? = some (.int .i64 b)):
 Calls prog 140 #[.agg #[.slice A (n+1) c,()],.agg #[.pointer q,a]] w fun e w'=>
  ∃B d F f,e=.returned (.tuple #[.agg #[.slice B n d,.slice F 1 f],.agg #[.pointer r,b],true])∧Bd w' w.heap.size 92 2 B n d (xs.take (n*2))∧An w w':=by
 have N1:=trivial;exact K33
end
