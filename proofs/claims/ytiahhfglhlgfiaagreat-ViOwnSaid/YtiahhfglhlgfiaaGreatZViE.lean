/-
  Part ZViE.
-/
import Derived.Test.YtiahhfglhlgfiaaGreatZEdK
import Derived.Test.YtiahhfglhlgfiaaGreatZViD
import Derived.IntWalk
set_option maxRecDepth 100000
set_option maxHeartbeats 16000000
set_option linter.unusedVariables false
set_option linter.unusedSimpArgs false
namespace Go.Proofs.YtiahhfglhlgfiaaGreat
open Go.RowKit
open Act renaming put→Am
open AllReadyH renaming cons→Ah,nil→Ak
open _root_.List renaming getElem?_cons_succ→Af,getElem?_cons_zero→Ae,getElem?_toArray→Ag,getElem_cons_succ→Aa,getElem_cons_zero→A7,getElem_toArray→Ab,setIfInBounds_toArray→A6,set_cons_succ→Ad,set_cons_zero→Ac
section
variable {w:World}{xs:List Value}{A:Option Addr}{n c:Nat}
theorem dL (w:World):Calls Tryz.prog 124 #[.slice none 0 0] w fun e w'=>e=.returned (.slice none 0 0)∧w=w':=by
 have hq:∀w1:World,(binOp .eql 60 (.slice none 0 0) (.slice none 0 0)).run Tryz.prog w1=.ok (.bool (none:Option Addr).isNone) w1:=fun w1=>Lib.run_eql_slice_nil w1 60 59 none 0 0 0 0 Tryz.underlying60
 go_enter Tryz.func124,Tryz.ntmps124
 go_wp2_with fail
 go_ret
 exact⟨rfl,rfl⟩
theorem Um (hl:Rd w 2 A n c xs)(h1:∀u∈xs,u.oneCell'=true)(hA:A=none→c=0)(hb:n≤2000000):
 Calls Tryz.prog 113 #[.agg #[.slice A n c,.slice none 0 0]] w fun e w'=>∃v,e=.returned v∧(∃B d,v=.agg #[.slice B n d,.slice none 0 0]∧Ay w' w.heap.size 59 2 B n d xs)∧Al w w':=by
 obtain⟨W,hW,hx,hz,b1,b2⟩:∃W,W=(w.alloc (.cells #[.slice A n c,.slice none 0 0] 62)).alloc (.cells #[.slice none 0 0,.slice none 0 0] 62)∧Al w W∧W.heap.size=w.heap.size+2∧
  An W w.heap.size 62 #[.slice A n c,.slice none 0 0]∧An W (w.heap.size+1) 62 #[.slice none 0 0,.slice none 0 0]:=
  ⟨_,rfl,(Al.alloc _ _).to_alloc _,by simp,(An.new w _ _).ext (Al.alloc _ _),by
   have h:=An.new (w.alloc (.cells #[.slice A n c,.slice none 0 0] 62)) 62 #[.slice none 0 0,.slice none 0 0]
   rwa[World.size_alloc]at h⟩
 have HX:=A4 hx;have B1:=A4 b1;have B2:=A4 b2;have HC:Hid (∀wq,Al w wq→Calls Tryz.prog 124 #[.slice A n c] wq fun e w'=>∃B d,e=.returned (.slice B n d)∧Ay w' w.heap.size 59 2 B n d xs∧Al wq w'):=
  A4 fun wq he=>(Rk (hl.ext he) h1 hA hb).mono fun e w' ⟨B,d,h1,h2,h3⟩=>⟨B,d,h1,Ay.lower h2 he.hsize,h3⟩
 clear hl h1 hA hb hx b1 b2;go_enter Tryz.func113,Tryz.ntmps113
 go_upto_region 1 with fail
 rw[←hW];clear hW;have HS0:Hid (Al w W.drew∧An W.drew w.heap.size 62 #[.slice A n c,.slice none 0 0]):=A4 ⟨HX.out.to_drew,B1.out⟩;have hb2:An W.drew (w.heap.size+1) 62 #[.slice none 0 0,.slice none 0 0]:=B2.out;refine wp_region_held_drew (S:=fun w'=>Al w w'∧An w' w.heap.size 62 #[.slice A n c,.slice none 0 0]) (by kernel_rfl) HS0.out (fun hS=>?_)
 refine B8 (i:=0) (v:=(.pointer (some ⟨w.heap.size,0,none⟩))) rfl hS ?_
 refine F4 (i:=1) (v:=(.slice A n c)) rfl (fun w' hSw=>by have c0:w'.cell? ⟨w.heap.size,0,none⟩=some (.slice A n c):=hSw.2.cell 0;go_simp) hS ?_
 refine B8 (i:=3) (v:=(.pointer (some ⟨w.heap.size,1,none⟩))) rfl hS ?_
 refine F4 (i:=4) (v:=(.slice none 0 0)) rfl (fun w' hSw=>by have c0:w'.cell? ⟨w.heap.size,1,none⟩=some (.slice none 0 0):=hSw.2.cell 1;go_simp) hS ?_
 clear HS0 B1 B2 HX;generalize W.drew=cur at*;refine wpAnyH_ready (rs:=[2]) (by decide +kernel) (by simp) (Ah rfl (fun K hK=>?_) Ak)
 refine C9 rfl 124 #[.slice A n c] rfl (by kernel_rfl) (fun v w'=>∃B d,v=.slice B n d∧Ay w' w.heap.size 59 2 B n d xs) ((HC.out _ hS.1).mono fun e w' ⟨B,d,h1,h2,h3⟩=>⟨_,h1,⟨B,d,rfl,h2⟩,h3⟩) ?_
 rintro v w2 ⟨B,d,rfl,ho⟩ hE;replace hb2:=hb2.ext hE;refine hK.out _ _ ⟨hS.1.trans hE,hS.2.ext hE⟩ (fun hS'=>?_)
 clear hK K;replace hS:=hS';clear hS' hE
 try simp only[Ab,A7,Aa,Am,A6,Ac,Ad]
 refine wpAnyH_ready (rs:=[5]) (by decide +kernel) (by simp) (Ah rfl (fun K hK=>?_) Ak)
 refine C9 rfl 124 #[.slice none 0 0] rfl (by kernel_rfl) (fun v w'=>v=.slice none 0 0) ((dL _).mono fun e w' ⟨h1,h2⟩=>⟨_,h1,rfl,h2▸Al.refl _⟩) ?_
 rintro v w3 rfl hE;replace hb2:=hb2.ext hE;replace ho:=Ay.ext ho hE;refine hK.out _ _ ⟨hS.1.trans hE,hS.2.ext hE⟩ (fun hS'=>?_)
 clear hK K;replace hS:=hS';clear hS' hE
 try simp only[Ab,A7,Aa,Am,A6,Ac,Ad]
 refine B8 (i:=6) (v:=(.agg #[.slice B n d,.slice none 0 0])) rfl hS ?_
 have c0:=hb2.cell 0;have c1:=hb2.cell 1;have f0:=hb2.frozen 0;have f1:=hb2.frozen 1;simp only[Ag,Ae,Af]at c0 c1;refine wpAnyH_ready (rs:=[7]) (by decide +kernel) (by simp) (Ah rfl (fun K hK=>?_) Ak)
 go_simp
 have B7:=Ds hb2 (.slice B n d) (.slice none 0 0);have O7:=Hm ho hb2 (by decide) (.slice B n d) (.slice none 0 0)
 have X7:=Dr hS.1 (show w.heap.size≤w.heap.size+1 by omega) (.slice B n d) (.slice none 0 0)
 refine hK.out _ _ ⟨X7,Bh (g':=w.heap.size+1) (Bh (g':=w.heap.size+1) hS.2 (by omega) 0 _) (by omega) 1 _⟩ (fun _=>?_)
 clear hK K;refine wpAnyH_done (by kernel_rfl) ?_ _
 have HB:=A4 B7;have HR:=A4 (And.intro O7 X7);clear B7 O7 X7 hS ho hb2 c0 c1 f0 f1 HC;go_wp2_with fail
 refine bodyPost_ret (Jt rfl _ _ _ _ _ _ _ rfl HB.out Tryz.underlying62 rfl (by kernel_rfl)) rfl ⟨_,rfl,⟨B,d,rfl,HR.out.1⟩,HR.out.2⟩
theorem tC (a:Addr)(k:Nat):(⟨(a.add k).block,(a.add k).off+1,none⟩:Addr)=a.add (k+1):=by
 unfold Addr.add;by_cases h:k=0<;>simp[h,Nat.add_assoc]
theorem cH {q:Option Addr}{a:Int}(hl:Rd w 2 A (n+1) c xs)(h1:xs[n*2]? = some (Value.pointer q))(h2:xs[n*2+1]? = some (Value.int .i64 a)):
 Calls Tryz.prog 114 #[.slice A (n+1) c] w fun e w'=>e=.returned (.tuple #[.agg #[.pointer q,.int .i64 a],.slice A n c])∧Al w w':=by
 have hnc:=hl.ncap;have hcm:=hl.nmax;unfold maxLen at hcm;obtain⟨ad,rfl,hc⟩:=hl.at_ (k:=0) (by omega)
 have c0:=hc _ _ h1;have c1:=hc _ _ h2;have hw:IntKind.i64.wrap (((n+1:Nat):Int)-1)=(n:Int):=by rw[IntWalk.i64_in _ (by omega)];omega
 have hi1:(0:Int)≤(n:Int):=by omega
 have hw2:IntKind.i64.wrap (n:Int)=n:=IntWalk.i64_in _ (by omega)
 have hi3:¬((n:Int)+1≤(n:Int)):=by omega
 have hn2:n≤c:=by omega
 clear hc hl;go_enter Tryz.func114,Tryz.ntmps114
 go_upto_region 1 with fail
 have c1':w.cell? ⟨(ad.add (n*2)).block,(ad.add (n*2)).off+1,none⟩=some (.int .i64 a):=by rw[←c1];exact congrArg _ (tC ad (n*2))
 have hb:=An.new w 59 #[.pointer none,.int .i64 0];have hx:=Al.alloc w (.cells #[.pointer none,.int .i64 0] 59);generalize w.alloc (.cells #[.pointer none,.int .i64 0] 59)=W at*;refine wp_region_held_drew (S:=fun w'=>Al w w') (by kernel_rfl) hx.to_drew (fun hS=>?_)
 refine B8 (i:=0) (v:=(.slice (some ad) (n+1) c)) rfl hS ?_
 refine B8 (i:=1) (v:=(.slice (some ad) (n+1) c)) rfl hS ?_
 refine B8 (i:=2) (v:=(.int .i64 ((n+1:Nat):Int))) rfl hS ?_
 refine B8 (i:=3) (v:=(.int .i64 n)) rfl hS ?_
 refine B8 (i:=4) (v:=(.pointer (some (ad.add (n*2))))) rfl hS ?_
 refine F4 (i:=5) (v:=(.agg #[.pointer q,.int .i64 a])) rfl (fun w' hSw=>by have e0:=hSw.cell c0;have e1:=hSw.cell c1';go_simp) hS ?_
 refine B8 (i:=6) (v:=(.slice (some ad) (n+1) c)) rfl hS ?_
 refine B8 (i:=7) (v:=(.slice (some ad) (n+1) c)) rfl hS ?_
 refine B8 (i:=8) (v:=(.int .i64 ((n+1:Nat):Int))) rfl hS ?_
 refine B8 (i:=9) (v:=(.int .i64 n)) rfl hS ?_
 refine B8 (i:=10) (v:=(.slice (some ad) n c)) rfl hS ?_
 have hb':An W.drew w.heap.size 59 #[.pointer none,.int .i64 0]:=hb;clear hb hx;generalize W.drew=cur at*;have d0:=hb'.cell 0;have d1:=hb'.cell 1;have f0:=hb'.frozen 0;have f1:=hb'.frozen 1;simp only[Ag,Ae,Af]at d0 d1;refine wpAnyH_ready (rs:=[11]) (by decide +kernel) (by simp) (Ah rfl (fun K hK=>?_) Ak)
 go_simp
 refine hK.out _ _ (Dr hS (Nat.le_refl _) (.pointer q) (.int .i64 a)) (fun hX=>?_)
 clear hK K;have HB:=A4 (Ds hb' (.pointer q) (.int .i64 a));have HX:=A4 hX
 try simp only[Ab,A7,Aa,Am,A6,Ac,Ad]
 refine wpAnyH_ready (rs:=[12]) (by decide +kernel) (by simp) (Ah rfl (fun K hK=>?_) Ak)
 go_simp
 refine hK.out _ _ hX (fun _=>?_)
 refine wpAnyH_done (by kernel_rfl) ?_ _
 clear hK K hX hb' d0 d1 f0 f1;go_wp2_with fail
 refine bodyPost_ret (v:=.tuple #[.agg #[.pointer q,.int .i64 a],.slice (some ad) n c]) ?_ rfl ⟨rfl,HX.out⟩
 exact Fo rfl _ _ w.heap.size 59 _ _ _ _ rfl rfl HB.out Tryz.underlying59 rfl (by kernel_rfl)
theorem Nt {P:Program}{fn:Func}{p q r:Tmp}{ty ty':TypeId}(h:fn.results=#[.cell p ty,.cell q ty',.tmp r])(tmps:Array Value)(w:World)(g g':Nat)(t t':TypeId)(cs cs':Array Value)(fr fr':Nat×Nat)(d d':TypeDesc)(v:Value)
 (hp:tmps.getD p undef=.pointer (some ⟨g,0,none⟩)) (hq:tmps.getD q undef=.pointer (some ⟨g',0,none⟩)) (hr:tmps.getD r undef=v) (hg:w.heap[g]? = some (.cells cs t fr)) (hg':w.heap[g']? = some (.cells cs' t' fr'))
 (hu:P.underlying ty=some d) (hd:(match d with|.struct _|.array _ _=>true|_=>false)=true) (hi:(P.info? ty).map (·.size)=some cs.size)
 (hu':P.underlying ty'=some d') (hd':(match d' with|.struct _|.array _ _=>true|_=>false)=true) (hi':(P.info? ty').map (·.size)=some cs'.size):
 (results fn tmps).run P w=.ok (.tuple #[.agg cs,.agg cs',v]) w:=by
 have hp':tmps[p]?.getD undef=.pointer (some ⟨g,0,none⟩):=by simpa using hp
 exact I33
def tM (w:World):World:={ w with heap:=#[] }
theorem kB (w:World):Al (tM w) w:=⟨rfl,rfl,rfl,Nat.zero_le _,fun k hk=>absurd hk (Nat.not_lt_zero k)⟩
theorem bR {g k:Nat}(h:k≠g)(a b:Value):((w.setCell ⟨g,0,none⟩ a).setCell ⟨g,1,none⟩ b).heap[k]? = w.heap[k]?:=by rw[Cd h,Cd h]
theorem E0 {g t g':Nat}{cs:Array Value}(h:An w g t cs)(hne:g'≠g)(a b:Value):An ((w.setCell ⟨g',0,none⟩ a).setCell ⟨g',1,none⟩ b) g t cs:=Bh (Bh h hne 0 a) hne 1 b
theorem Ay.popS {base e n c:Nat}(h:Ay w base e 2 A (n+1) c xs):Ay w base e 2 A n c (xs.take (n*2)):=by
 obtain⟨h1,h2⟩:=h;rcases h2 with⟨_,h0⟩|⟨g,cap,cur,hv,hb,hg,hnc,hcap,hcur,ht⟩
 ·omega
 ·injection hv with hA _ hc
  subst hA;subst hc;refine⟨by rw[List.length_take];omega,.inr ⟨g,c,cur,rfl,hb,hg,by omega,hcap,hcur,?_⟩⟩
  rw[←ht,List.take_take]
  congr 1
  omega
theorem Uq (w:World)(x y a b:Value):∃W,W=(((w.alloc (.cells #[x,y] 62)).alloc (.cells #[a,b] 59)).alloc (.cells #[.slice none 0 0,.slice none 0 0] 62)).alloc (.cells #[.pointer none,.int .i64 0] 59)∧Al w W∧W.heap.size=w.heap.size+4∧
 An W w.heap.size 62 #[x,y]∧An W (w.heap.size+1) 59 #[a,b]∧An W (w.heap.size+1+1) 62 #[.slice none 0 0,.slice none 0 0]∧An W (w.heap.size+1+1+1) 59 #[.pointer none,.int .i64 0]:=by
 have h1:=An.new w 62 #[x,y];have x1:=Al.alloc w (.cells #[x,y] 62);have z1:(w.alloc (.cells #[x,y] 62)).heap.size=w.heap.size+1:=by simp
 generalize w.alloc (.cells #[x,y] 62)=W1 at*;have h2:=An.new W1 59 #[a,b];have x2:=Al.alloc W1 (.cells #[a,b] 59);have z2:(W1.alloc (.cells #[a,b] 59)).heap.size=w.heap.size+2:=by simp[z1]
 generalize W1.alloc (.cells #[a,b] 59)=W2 at*;have h3:=An.new W2 62 #[.slice none 0 0,.slice none 0 0];have x3:=Al.alloc W2 (.cells #[.slice none 0 0,.slice none 0 0] 62);have z3:(W2.alloc (.cells #[.slice none 0 0,.slice none 0 0] 62)).heap.size=w.heap.size+3:=by simp[z2]
 generalize W2.alloc (.cells #[.slice none 0 0,.slice none 0 0] 62)=W3 at*;have h4:=An.new W3 59 #[.pointer none,.int .i64 0];have x4:=Al.alloc W3 (.cells #[.pointer none,.int .i64 0] 59);rw[z1]at h2;rw[z2]at h3;rw[z3]at h4;exact⟨_,rfl,((x1.trans x2).trans x3).trans x4,by simp[z3],h1.ext ((x2.trans x3).trans x4),h2.ext (x3.trans x4),h3.ext x4,h4⟩
theorem pD {A q:Option Addr}{c:Nat}{a:Int}(hc:c≤maxLen)(hA:A=none→c=0):
 Calls Tryz.prog 94 #[.agg #[.slice A 0 c,.slice none 0 0],.agg #[.pointer q,.int .i64 a]] w fun e w'=>(∃B d,e=.returned (.tuple #[.agg #[.slice B 0 d,.slice none 0 0],.agg #[.pointer q,.int .i64 a],.bool false]))∧Al w w':=by
 have N0:=trivial;exact zL
theorem pC {A q r:Option Addr}{a b:Int}(hl:Rd w 2 A (n+1) c xs)(h1:∀u∈xs,u.oneCell'=true)(hb:n≤1000)(k1:xs[n*2]? = some (.pointer r))(k2:xs[n*2+1]? = some (.int .i64 b)):
 Calls Tryz.prog 94 #[.agg #[.slice A (n+1) c,.slice none 0 0],.agg #[.pointer q,.int .i64 a]] w fun e w'=>
  ∃B d F f,e=.returned (.tuple #[.agg #[.slice B n d,.slice F 1 f],.agg #[.pointer r,.int .i64 b],.bool true])∧Ay w' w.heap.size 59 2 B n d (xs.take (n*2))∧Al w w':=by
 have N1:=trivial;exact zL
end
