/-
  Part ZPaiS.
-/
import Derived.Test.YtiahhfglhlgfiaaGreatZTermX
import Derived.Test.YtiahhfglhlgfiaaGreatZPaiW
import Derived.Deep.RegionHeld3
import Derived.OwnWalk
set_option maxRecDepth 100000
set_option maxHeartbeats 16000000
set_option linter.unusedVariables false
set_option linter.unusedSimpArgs false
namespace Go.Proofs.YtiahhfglhlgfiaaGreat
open Go.RowKit
open Region renaming wanted→Bm
open Act renaming put→Am
open AllReadyH renaming cons→Ah,nil→Ak
open _root_.And renaming intro→Be
open _root_.List renaming getElem_cons_succ→Aa,getElem_cons_zero→A7,getElem_toArray→Ab,length_append→Bl,setIfInBounds_toArray→A6,set_cons_succ→Ad,set_cons_zero→Ac
open _root_.Nat renaming le_refl→Ai,zero_le→Aw
section
variable {w:World}{A B:Option Addr}
theorem Rj {P:Program}{md:Region.Mode}{ops:Array Oper}{Q:Exit→Act→World→Prop}{S S':World→Prop}(hSS:∀w,S' w→S w):∀(fuel:Nat) (listed:Array Bool) (a:Act) (w:World),wpAnyH P md ops Q S' fuel listed a w→wpAnyH P md ops Q S fuel listed a w
 |0,_,_,_,h=>h
 |fuel+1,_,_,_,h=>⟨h.1,fun i hi=>wpOp_mono (fun a' w' h'=>⟨hSS _ h'.1,Rj hSS fuel _ a' w' h'.2⟩) (h.2 i hi)⟩
theorem Kf {P:Program}{ops:Array Oper}{o:Oper}{a:Act}{K:Act→World→Prop}{Q:Exit→Act→World→Prop}{E:Prop}{ars:Array Operand}{tys:Array TypeId}(hgd:o.guard=none)
 (f:FuncId) (args:Array Value) (t:Tmp) (ho:o.op=.call { callee:=.value (.tmp t),args:=ars,argTypes:=tys }) (hrun:(execOp a.eval o).run P w=.ok (.enter f args) w) (R:Value→World→Prop)
 (hc:Calls P f args w fun e w'=>∃v,e=.returned v∧R v w') (h:∀v w',R v w'→K (a.put o.dst v) w'):if Bm o (yielded ops a.tmps)=true then Oper.wp P o a w K Q else E:=by
 have hw:Bm o (yielded ops a.tmps)=true:=by simp[Bm,hgd]
 rw[if_pos hw];exact I16
theorem Y7 {p2 p3 m d st:Nat}(c3:w.cell? ⟨p3,0,none⟩=some (.slice B m d))(c2:w.cell? ⟨p2,1,none⟩=some (.int .i64 st)):
 Calls Tryz.prog 66 #[.pointer (some ⟨p3,0,none⟩),.pointer (some ⟨p2,0,none⟩)] w fun e w'=>∃g,e=.returned (.pointer (some ⟨g,0,none⟩))∧w.heap.size≤g∧Mb w' g B m d (st,[])∧Al w w':=by
 have hx:=A4 (Al.alloc w (.cells #[.slice B m d,.int .i64 (st:Int),.slice none 0 0] 129));have hb:=A4 (An.new w 129 #[.slice B m d,.int .i64 (st:Int),.slice none 0 0]);go_enter Tryz.func66,Tryz.ntmps66
 go_wp2_with fail
 go_ret
 exact⟨_,rfl,Nat.le_refl _,⟨none,0,0,hb.out,Av.nil _ _⟩,hx.out⟩
def eA (w:World)(l:List Int)(e:Ending)(w':World):Prop:=∃S q r,e=.returned (.tuple #[.slice S q r,.int .i64 0])∧Av w' w.heap.size S q r l∧Al w w'
theorem fE {g t:Nat}{u v:Value}(h:An w g t #[u,v]):w.cell? ⟨g,0,none⟩=some u∧w.cell? ⟨g,1,none⟩=some v:=⟨h.cell 0,h.cell 1⟩
def Nq (w:World)(base g:Nat)(ws:List (List Int)):Prop:=∀i,i<ws.length→∃S q r,w.cell? ⟨g,i,none⟩=some (.slice S q r)∧Av w base S q r (ws[i]?.getD [])
theorem Nq.one {base g t q r:Nat}{S:Option Addr}{l:List Int}(h:An w g t #[.slice S q r])(ho:Av w base S q r l):Nq w base g [l]:=fun i hi=>by
 obtain rfl:i=0:=by simp at hi;omega
 exact⟨S,q,r,h.cell 0,ho⟩
theorem Nq.two {base g t q r q' r':Nat}{S S':Option Addr}{l l':List Int}(h:An w g t #[.slice S q r,.slice S' q' r'])(ho:Av w base S q r l)(ho':Av w base S' q' r' l'):Nq w base g [l,l']:=fun i hi=>by
 have:i=0∨i=1:=by simp at hi;omega
 rcases this with rfl|rfl
 ·exact⟨S,q,r,h.cell 0,ho⟩
 ·exact⟨S',q',r',h.cell 1,ho'⟩
theorem Mb.own {g m d:Nat}{j:Nat×List Int}(h:Mb w g B m d j):∃S q r,w.cell? ⟨g,2,none⟩=some (.slice S q r)∧Av w (g+1) S q r j.2:=
 let ⟨S,q,r,h1,h2⟩:=h;⟨S,q,r,h1.cell 2,h2⟩
theorem aG (x:List Int)(ws:List (List Int))(v:List Int):Fc x (ws++[v])=Hd (Fc x ws) v:=by unfold Fc;rw[List.foldl_append];rfl
theorem bI {ws:List (List Int)}{i:Nat}(h:i<ws.length):ws.take (i+1)=ws.take i++[ws[i]?.getD []]:=by
 rw[List.take_succ_eq_append_getElem h];simp[h]
theorem lU {n c m d st at_:Nat}{a b:List Int}(ha:Bi w A n c a)(hb:Bi w B m d b)(hB:B=none→d=0)(ga:Rs a n st)(gb:Rs b m at_)(hnm:n=m):
 Calls Tryz.prog 38 #[.agg #[.slice A n c,.int .i64 st],.agg #[.slice B m d,.int .i64 at_]] w (eA w (Ec a st b at_)):=by
 subst hnm;have hx0:Al w ((w.alloc (.cells #[.slice A n c,.int .i64 st] 43)).alloc (.cells #[.slice B n d,.int .i64 at_] 43)):=(Al.alloc _ _).to_alloc _;have b2:=(An.new w 43 #[.slice A n c,.int .i64 st]).ext (Al.alloc _ (.cells #[.slice B n d,.int .i64 at_] 43));have b3:=An.new (w.alloc (.cells #[.slice A n c,.int .i64 st] 43)) 43 #[.slice B n d,.int .i64 at_];rw[World.size_alloc]at b3;have HX:=A4 hx0;have HA:=A4 (ha.ext hx0);have HB:=A4 (hb.ext hx0);have hnc:=ha.ncap;have hcm:=ha.nmax;have hmd:=hb.ncap;have hdm:=hb.nmax;unfold maxLen at hcm hdm;have hbl:=A4 hb.len;have HBN:=A4 hB;have hn1:=ga.1;have hn2:=ga.2.1;have hst:st≤n:=by have:=ga.2.2.2.1;omega
 have hat:at_≤n:=by have:=gb.2.2.2.1;omega
 have G1:=A4 ga;have G2:=A4 gb;have hnn:((n:Int) !=(n:Int))=false:=by simp
 obtain⟨S1,S2,S3,_,_⟩:=Ke a b (Aw n);have HS:Hid (Ec a st b at_=if Ei a b 0 n<G4 a b 0 n then(if Ei a b (El b n) n<G4 a b (El b n) n then Ly b st at_ (Ei a b 0 (El b n)) (G4 a b 0 (El b n)) (Ei a b (El b n) n+1-El b n) (El b n) (H7 b (Dd b (st,[]) (Ei a b 0 n) (G4 a b 0 n)) at_).2 else(H7 b (Dd b (st,[]) (Ei a b 0 n) (G4 a b 0 n)) at_).2)else(H7 b (st,[]) at_).2):=A4 (by
  unfold Ec;rw[hbl.out])
 have hall:=Be b2 (Be b3 (Be HX (Be HA HB)));clear hx0 b2 b3 HX HA HB ha hb ga gb hB;go_enter Tryz.func38,Tryz.ntmps38
 go_upto_region 1 with fail
 revert hall
 generalize (w.alloc (.cells #[.slice A n c,.int .i64 st] 43)).alloc (.cells #[.slice B n d,.int .i64 at_] 43)=W;obtain⟨p2,hp2⟩:∃p2,w.heap.size=p2:=⟨_,rfl⟩;obtain⟨p3,hp3⟩:∃p3,w.heap.size+1=p3:=⟨_,rfl⟩;rw[hp3,hp2];have HP:=A4 (Be hp2 hp3);clear hp2 hp3;rintro⟨b2,b3,HX,HA,HB⟩;obtain⟨k20,k21⟩:=fE b2;obtain⟨k30,k31⟩:=fE b3;have wS:Hid (∀wq,Al W wq→wq.cell? ⟨p2,0,none⟩=some (.slice A n c)):=A4 fun wq h=>h.cell k20
 have yB:Hid (∀wq,Al W wq→wq.cell? ⟨p2,1,none⟩=some (.int .i64 st)):=A4 fun wq h=>h.cell k21
 have pS:Hid (∀wq,Al W wq→wq.cell? ⟨p3,0,none⟩=some (.slice B n d)):=A4 fun wq h=>h.cell k30
 have Qp:Hid (∀wq,Al W wq→wq.cell? ⟨p3,1,none⟩=some (.int .i64 at_)):=A4 fun wq h=>h.cell k31
 have HSZ:Hid (w.heap.size≤W.heap.size):=A4 HX.out.hsize;have HC1:=A4 (Nv HA.out G1.out.2.2.2.2 G1.out.1 G1.out.2.1 G1.out.2.2.1 G1.out.2.2.2.1);clear b2 b3;go_wp2_with fail
 refine HC1.out.mono ?_
 rintro e w1 ⟨rfl,he1⟩;clear HC1 k20 k21 k30 k31;have k30:=pS.out w1 he1;have HC2:=A4 (Nv (HB.out.ext he1) G2.out.2.2.2.2 G2.out.1 G2.out.2.1 G2.out.2.2.1 G2.out.2.2.2.1);have k31:=Qp.out w1 he1;go_wp2_with fail
 refine HC2.out.mono ?_
 rintro e w2 ⟨rfl,he2⟩;have hx2:=he1.trans he2;clear HC2 he1 he2 k30 k31;have k20:=wS.out w2 hx2;have k30:=pS.out w2 hx2;have HD:=A4 (Xr (HA.out.ext hx2) (HB.out.ext hx2) (Aw n) (Ai n) (Ai n))
 revert S1 S2 S3 HS HD
 generalize Ei a b 0 n=x;generalize G4 a b 0 n=y;intro S1 S2 S3 HS HD;go_wp2_with fail
 refine HD.out.mono ?_
 rintro e w3 ⟨rfl,z,rfl⟩;have hx3:=hx2.to_drewN z;clear HD k20 k30 hx2;generalize w2.drewN z=w3 at*;have HTO:Hid (∀{wq:World} {g:Nat} {j:Nat×List Int},Mb wq g B n d j→Al W wq→W.heap.size≤g→j.1≤n→j.2.length≤900000→Calls Tryz.prog 68 #[.pointer (some ⟨g,0,none⟩),.int .i64 at_] wq fun e w'=>e=.returned (.pointer (some ⟨g,0,none⟩))∧Mb w' g B n d (H7 b j at_)∧Cv wq w' g):=
  A4 fun h1 h2 h3 h4 h5=>tF h1 HB.out HBN.out h2 h3 hn2 h4 hat (by omega)
 have HBE:Hid (∀{wq:World},Al W wq→Calls Tryz.prog 66 #[.pointer (some ⟨p3,0,none⟩),.pointer (some ⟨p2,0,none⟩)] wq fun e w'=>∃g,e=.returned (.pointer (some ⟨g,0,none⟩))∧W.heap.size≤g∧wq.heap.size≤g∧Mb w' g B n d (st,[])∧Al wq w'):=
  A4 fun h1=>(Y7 (pS.out _ h1) (yB.out _ h1)).mono fun e w' ⟨g,h2,h3,h4,h5⟩=>⟨g,h2,Nat.le_trans h1.hsize h3,h3,h4,h5⟩
 have HOV:Hid (∀{wq:World} {g u v:Nat} {j:Nat×List Int},Mb wq g B n d j→Al W wq→W.heap.size≤g→j.1≤n→u≤v→v≤n→j.2.length≤900000→Calls Tryz.prog 69 #[.pointer (some ⟨g,0,none⟩),.int .i64 u,.int .i64 v] wq fun e w'=>e=.returned (.pointer (some ⟨g,0,none⟩))∧Mb w' g B n d (Dd b j u v)∧Cv wq w' g):=
  A4 fun h1 h2 h3 h4 h5 h6 h7=>mT h1 HB.out HBN.out h2 h3 hn2 h4 h5 h6 h7
 have HER:Hid (∀{wq:World} {g u:Nat} {j:Nat×List Int},Mb wq g B n d j→Al W wq→W.heap.size≤g→j.1≤n→u≤n→j.2.length≤900000→Calls Tryz.prog 70 #[.pointer (some ⟨g,0,none⟩),.int .i64 u] wq fun e w'=>e=.returned (.pointer (some ⟨g,0,none⟩))∧Mb w' g B n d (Dc b j u)∧Cv wq w' g):=
  A4 fun h1 h2 h3 h4 h5 h6=>jD h1 HB.out HBN.out h2 h3 hn2 h4 h5 h6
 have LT:∀(j:Nat×List Int) (k:Nat),j.1≤n→k≤n→(H7 b j k).2.length≤j.2.length+121:=fun j k h1 h2=>by
  have:=R6 (b:=b) (x:=j.1) (y:=k) (by omega) (by omega)
  show(j.2++Ff b j.1 k).length≤_
  rw[Bl];omega
 have LOv:Hid (∀(j:Nat×List Int) (u v:Nat),j.1≤n→u≤v→v≤n→(Dd b j u v).2.length≤j.2.length+241):=A4 fun j u v h1 h2 h3=>by
  have:=LT j u h1 (by omega)
  show((H7 b j u).2++(b.drop u).take (v-u)).length≤_
  rw[Bl,List.length_take];omega
 have LEr:Hid (∀(j:Nat×List Int) (u:Nat),j.1≤n→u≤n→(Dc b j u).2.length≤j.2.length+241):=A4 fun j u h1 h2=>by
  have:=LT j u h1 h2
  show((H7 b j u).2++[11]).length≤_
  rw[Bl];simp;omega
 clear LT;by_cases hxy:x<y
 ·have t1:decide (x<y)=true:=by simpa using hxy
  have HS2:Hid (Ec a st b at_=if Ei a b (El b n) n<G4 a b (El b n) n then Ly b st at_ (Ei a b 0 (El b n)) (G4 a b 0 (El b n)) (Ei a b (El b n) n+1-El b n) (El b n) (H7 b (Dd b (st,[]) x y) at_).2 else(H7 b (Dd b (st,[]) x y) at_).2):=A4 (by rw[HS.out,if_pos hxy])
  have hl1:=LOv.out (st,[]) x y hst S2 S3;have hl1:(Dd b (st,[]) x y).2.length≤900000:=by simp only[List.length_nil]at hl1;omega
  have hl0:(Dd b (st,[]) x y).1≤n:=S3;clear HS hxy;have hxw3d:=hx3.to_drew;have k31:=Qp.out w3 hx3;have k31d:=Qp.out _ hxw3d;go_upto_region 14 with fail
  go_cut [13] (fun s13 wx=>∃S q r,s13=.slice S q r∧Hid (Av wx w.heap.size S q r (H7 b (Dd b (st,[]) x y) at_).2)∧Hid (Al W wx))
  case first=>
   go_region_law (first
    |(
     refine Kf rfl 66 #[.pointer (some ⟨p3,0,none⟩),.pointer (some ⟨p2,0,none⟩)] 64 rfl (by kernel_rfl) (fun v w'=>∃g,v=.pointer (some ⟨g,0,none⟩)∧W.heap.size≤g∧w3.drew.heap.size≤g∧Mb w' g B n d (st,[])∧Al w3.drew w'∧Al W w') ((HBE.out hxw3d).mono fun e w' ⟨g,h1,h2,h3,h4,h5⟩=>⟨_,h1,g,rfl,h2,h3,h4,h5,hxw3d.trans h5⟩) ?_
     rintro v w4 ⟨g4,rfl,hg4,hg4',hJw4,hEw4,hxw4⟩;have k31:=Qp.out w4 hxw4)
    |(
     refine Bs rfl 69 #[.pointer (some ⟨g4,0,none⟩),.int .i64 (x:Int),.int .i64 (y:Int)] rfl (by kernel_rfl) (fun v w'=>v=.pointer (some ⟨g4,0,none⟩)∧Mb w' g4 B n d (Dd b (st,[]) x y)∧Cv w4 w' g4∧Al W w') ((HOV.out hJw4 hxw4 hg4 hst S2 S3 (Aw _)).mono fun e w' ⟨h1,h2,h3⟩=>⟨_,h1,rfl,h2,h3,h3 W hxw4 hg4⟩) ?_
     rintro v w5 ⟨rfl,hJw5,hKw5,hxw5⟩;have k31:=Qp.out w5 hxw5)
    |(
     refine Bs rfl 68 #[.pointer (some ⟨g4,0,none⟩),.int .i64 (at_:Int)] rfl (by kernel_rfl) (fun v w'=>v=.pointer (some ⟨g4,0,none⟩)∧Mb w' g4 B n d (H7 b (Dd b (st,[]) x y) at_)∧Cv w5 w' g4∧Al W w') ((HTO.out hJw5 hxw5 hg4 hl0 hl1).mono fun e w' ⟨h1,h2,h3⟩=>⟨_,h1,rfl,h2,h3,h3 W hxw5 hg4⟩) ?_
     rintro v w6 ⟨rfl,hJw6,hKw6,hxw6⟩;have k31:=Qp.out w6 hxw6;obtain⟨S,q,r,k6,ho6⟩:=hJw6.own))
   all_goals
    have HO6:Hid (Av w6 w.heap.size S q r (H7 b (Dd b (st,[]) x y) at_).2):=A4 (Ay.lower ho6 (by have:=HSZ.out;omega))
    have HX6:=A4 hxw6;clear hJw6 k6 ho6 hJw4 hxw4 hJw5 hxw5 hxw6 k31 hl0 hl1;go_wp2_with fail
    go_meet
    exact⟨S,q,r,rfl,HO6,HX6⟩
  case rest=>
   obtain⟨S,q,r,rfl,HO,HX6⟩:=hcut;clear k31 k31d hxw3d hx3 hl1 hl0;generalize hbest:(H7 b (Dd b (st,[]) x y) at_).2=best at*;clear hbest
   rename World=>w7
   have k30:=pS.out w7 HX6.out;go_upto_block 0 with fail
   go_cut [14] (fun s14 wx=>s14=.int .i64 (El b n:Int)∧w7=wx)
   case first=>
    have HBX:=A4 (HB.out.ext HX6.out);go_wp2_with fail
    go_loopw [14] (fun v wr=>∃k:Nat,k≤n∧v=.int .i64 k∧Hid (El b n=El b k)∧w7=wr) (fun v _=>(intOf v).toNat)
    case atStart=>exact⟨n,Ai _,rfl,A4 rfl,rfl⟩
    case round=>
     obtain⟨k,hk,rfl,HF,rfl⟩:=hrel;rcases Nat.eq_zero_or_pos k with h0|h0
     ·subst h0
      have HF2:Hid ((El b n:Int)=0):=A4 (by rw[HF.out];rfl)
      clear HF;go_wp2_with fail
      go_meet
      exact⟨by rw[HF2.out];rfl,rfl⟩
     ·obtain⟨k',rfl⟩:∃k',k=k'+1:=⟨k-1,by omega⟩
      obtain⟨a1,e1,hc1⟩:=HBX.out.at_ (k:=k') (by omega)
      have c1:=hc1 k' (by omega)
      have e2:((k'+1:Nat):Int)-1=(k':Int):=by omega
      have hk'n:k'<n:=by omega
      subst e1;by_cases hq:gI b k'=32
      ·have HF2:Hid (El b n=El b k'):=A4 (by rw[HF.out];simp[El,hq])
       rw[hq]at c1;clear HF hc1 hq;go_wp2_with fail
       go_roundw
       case rel=>exact⟨k',by omega,by first|rfl|(congr 1;omega),HF2,trivial⟩
       case measure=>simp[intOf]
      ·have HF2:Hid (El b n=k'+1):=A4 (by rw[HF.out];simp[El,hq])
       have b1:(gI b k'==32)=false:=by simpa using hq
       clear HF hc1 hq;go_wp2_with fail
       go_meet
       exact⟨by rw[HF2.out],rfl⟩
   case rest=>
    obtain⟨rfl,rfl⟩:=hcut;have hful:=(Qc b n).1;obtain⟨M1,M2,M3,_,_⟩:=Ke a b (Aw (El b n));obtain⟨T1,T2,T3,_,_⟩:=Ke a b hful;have hall:=Be hful (Be M1 (Be M2 (Be M3 (Be T1 (Be T2 (Be T3 HS2))))));clear hful M1 M2 M3 T1 T2 T3 HS2
    revert hall
    generalize El b n=full;rintro⟨hful,M1,M2,M3,T1,T2,T3,HS2⟩;have k20:=wS.out w7 HX6.out;have k30:=pS.out w7 HX6.out;have HD1:=A4 (Xr (HA.out.ext HX6.out) (HB.out.ext HX6.out) (Aw full) hful hful);have HD2:Hid (∀z,Calls Tryz.prog 67 #[.slice A n c,.slice B n d,.int .i64 full,.int .i64 n] (w7.drewN z) (tQ (w7.drewN z) (Ei a b full n) (G4 a b full n))):=A4 fun z=>Xr (HA.out.ext (HX6.out.to_drewN z)) (HB.out.ext (HX6.out.to_drewN z)) hful (Ai n) (Ai n)
    have hall:=Be HD1 (Be HD2 (Be HS2 (Be M1 (Be M2 (Be M3 (Be T1 (Be T2 T3)))))));clear HD1 HD2 HS2 M1 M2 M3 T1 T2 T3
    revert hall
    generalize Ei a b 0 full=lo;generalize G4 a b 0 full=hi;generalize Ei a b full n=fi;generalize G4 a b full n=fh;rintro⟨HD1,HD2,HS2,M1,M2,M3,T1,T2,T3⟩;go_wp2_with fail
    refine HD1.out.mono ?_
    rintro e w8 ⟨rfl,z1,rfl⟩;obtain⟨mo,hmo⟩:∃mo,decide (lo<hi)=mo:=⟨_,rfl⟩;rw[hmo];have HMO:=A4 hmo;clear hmo;have HDz:=A4 (HD2.out z1);have HX8:=A4 (HX6.out.to_drewN z1);have HO8:=A4 (Av.ext HO.out (Al.drewN w7 z1));clear HD1 HD2 k20 k30 HX6 HO
    revert HDz HX8 HO8
    generalize w7.drewN z1=w8;intro HDz HX8 HO8;have k20:=wS.out w8 HX8.out;have k30:=pS.out w8 HX8.out;go_wp2_with fail
    refine HDz.out.mono ?_
    rintro e w9 ⟨rfl,z2,rfl⟩;have HX9:=A4 (HX8.out.to_drewN z2);have HO9:=A4 (Av.ext HO8.out (Al.drewN w8 z2));clear HDz k20 k30 HX8 HO8
    revert HX9 HO9
    generalize w8.drewN z2=w9;intro HX9 HO9;by_cases htl:fi<fh
    ·have t2:decide (fi<fh)=true:=by simpa using htl
     have HS3:Hid (Ec a st b at_=Ly b st at_ lo hi (fi+1-full) full best):=A4 (by rw[HS2.out,if_pos htl])
     clear HS2;go_wp2_with fail
     go_loopw [13,21] (fun s13 s21 wr=>∃(p q r:Nat) (S:Option Addr) (bst:List Int),full≤p∧p≤fi+1∧s21=.int .i64 p∧s13=.slice S q r∧Hid (Av wr w.heap.size S q r bst)∧Hid (Ec a st b at_=Ly b st at_ lo hi (fi+1-p) p bst)∧Hid (Al W wr)) (fun _ s21 _=>fi+1-(intOf s21).toNat)
     case atStart=>exact⟨full,q,r,S,best,Ai _,by omega,rfl,rfl,HO9,HS3,HX9⟩
     case round=>
      clear HO9 HS3 HX9;obtain⟨p,q,r,S,bst,hp1,hp2,rfl,rfl,HO,HS3,HXr⟩:=hrel;by_cases hlt:p≤fi
      ·have hpn:p≤n:=by omega
       have HS4:Hid (Ec a st b at_=Ly b st at_ lo hi (fi+1-(p+1)) (p+1) (Fc bst (L5 b st at_ p lo hi))):=A4 (by
        rw[HS3.out];obtain⟨f,hf⟩:∃f,fi+1-p=f+1:=⟨fi-p,by omega⟩
        rw[hf,show fi+1-(p+1)=f by omega]
        rfl)
       have hd1:=LEr.out (st,[]) p hst hpn;have hd1:(Dc b (st,[]) p).2.length≤900000:=by simp only[List.length_nil]at hd1;omega
       have hp0:(Dc b (st,[]) p).1≤n:=hpn;have hxwrd:=HXr.out.to_drew;have k31:=Qp.out wr HXr.out;have k31d:=Qp.out _ hxwrd;clear HS3;go_upto_region 25 with fail
       go_cut [22] (fun s22 wx=>∃gL,s22=.slice (some ⟨gL,0,none⟩) 1 1∧Hid (Nq wx w.heap.size gL [aM b st at_ p])∧Hid (Av wx w.heap.size S q r bst)∧Hid (Al W wx))
       case first=>
        go_region_law (first
         |(
          refine Kf rfl 66 #[.pointer (some ⟨p3,0,none⟩),.pointer (some ⟨p2,0,none⟩)] 119 rfl (by kernel_rfl) (fun v w'=>∃g,v=.pointer (some ⟨g,0,none⟩)∧W.heap.size≤g∧wr.drew.heap.size≤g∧Mb w' g B n d (st,[])∧Al wr.drew w'∧Al W w') ((HBE.out hxwrd).mono fun e w' ⟨g,h1,h2,h3,h4,h5⟩=>⟨_,h1,g,rfl,h2,h3,h4,h5,hxwrd.trans h5⟩) ?_
          rintro v w4 ⟨g4,rfl,hg4,hg4',hJw4,hEw4,hxw4⟩;have k31:=Qp.out w4 hxw4)
         |(
          refine Bs rfl 70 #[.pointer (some ⟨g4,0,none⟩),.int .i64 (p:Int)] rfl (by kernel_rfl) (fun v w'=>v=.pointer (some ⟨g4,0,none⟩)∧Mb w' g4 B n d (Dc b (st,[]) p)∧Cv w4 w' g4∧Al W w') ((HER.out hJw4 hxw4 hg4 hst hpn (Aw _)).mono fun e w' ⟨h1,h2,h3⟩=>⟨_,h1,rfl,h2,h3,h3 W hxw4 hg4⟩) ?_
          rintro v w5 ⟨rfl,hJw5,hKw5,hxw5⟩;have k31:=Qp.out w5 hxw5)
         |(
          refine Bs rfl 68 #[.pointer (some ⟨g4,0,none⟩),.int .i64 (at_:Int)] rfl (by kernel_rfl) (fun v w'=>v=.pointer (some ⟨g4,0,none⟩)∧Mb w' g4 B n d (H7 b (Dc b (st,[]) p) at_)∧Cv w5 w' g4∧Al W w') ((HTO.out hJw5 hxw5 hg4 hp0 hd1).mono fun e w' ⟨h1,h2,h3⟩=>⟨_,h1,rfl,h2,h3,h3 W hxw5 hg4⟩) ?_
          rintro v w6 ⟨rfl,hJw6,hKw6,hxw6⟩;have k31:=Qp.out w6 hxw6;obtain⟨S6,q6,r6,k6,ho6⟩:=hJw6.own;have hWR:Al wr w6:=(Al.drew wr).trans (hKw6 _ (hKw5 _ hEw4 hg4') hg4')))
        all_goals
         have hL:Hid (Nq (w6.alloc (.cells #[.slice S6 q6 r6] 27)) w.heap.size w6.heap.size [aM b st at_ p]):=A4 (Nq.one (An.new w6 _ _) (Av.ext (Ay.lower ho6 (by have:=HSZ.out;omega)) (Al.alloc _ _)))
         have hO6:Hid (Av (w6.alloc (.cells #[.slice S6 q6 r6] 27)) w.heap.size S q r bst):=A4 (Av.ext HO.out (hWR.to_alloc _));have hX6:Hid (Al W (w6.alloc (.cells #[.slice S6 q6 r6] 27))):=A4 (hxw6.to_alloc _);clear hJw4 hEw4 hxw4 hJw5 hKw5 hxw5 hJw6 hKw6 hxw6 k6 ho6 hWR k31;go_wp2_with fail
         go_meet
         exact⟨w6.heap.size,rfl,hL,hO6,hX6⟩
       case rest=>
        obtain⟨gL,rfl,hL,hO6,hX6⟩:=hcut
        rename World=>wa
        clear HO HXr k31 k31d hxwrd;go_upto_if 130 with fail
        go_cut [22] (fun s22 wx=>∃gL k,s22=.slice (some ⟨gL,0,none⟩) k k∧k=(L5 b st at_ p lo hi).length∧Hid (Nq wx w.heap.size gL (L5 b st at_ p lo hi))∧Hid (Av wx w.heap.size S q r bst)∧Hid (Al W wx))
        case first=>
         cases mo with
         |true=>
          have hlh:lo<hi:=by have:=HMO.out;simpa using this
          have hWY:Hid (L5 b st at_ p lo hi=[fH b st at_ p lo hi,pU b st at_ p lo hi]):=A4 (by unfold L5;rw[if_pos hlh])
          have hxwad:=hX6.out.to_drew;have k31:=Qp.out wa hX6.out;have k31d:=Qp.out _ hxwad;have hhn:hi≤n:=by omega
          have he1:=LOv.out (st,[]) lo hi hst M2 hhn;have he1:(Dd b (st,[]) lo hi).2.length≤241:=by simp only[List.length_nil]at he1;omega
          have hq1:(Dd b (st,[]) lo hi).1≤n:=hhn;have he2:=LEr.out (Dd b (st,[]) lo hi) p hq1 hpn;have he2:(Dc b (Dd b (st,[]) lo hi) p).2.length≤900000:=by omega
          have hq2:(Dc b (Dd b (st,[]) lo hi) p).1≤n:=hpn;have he1':(Dd b (st,[]) lo hi).2.length≤900000:=by omega
          have he3:=LOv.out (Dc b (st,[]) p) lo hi hp0 M2 hhn;have he0:=LEr.out (st,[]) p hst hpn;have he3:(Dd b (Dc b (st,[]) p) lo hi).2.length≤900000:=by simp only[List.length_nil]at he0;omega
          have hq3:(Dd b (Dc b (st,[]) p) lo hi).1≤n:=hhn;clear hlh he0;go_wp2_with fail
          refine wp_region_held_drew (S:=fun w'=>w'.cell? ⟨p3,1,none⟩=some (.int .i64 (at_:Int))) (by kernel_rfl) k31d (fun hHeld=>?_)
          refine wpAnyH_take (i:=0) (v:=(.func (.func 66) #[] #[.pointer (some ⟨p3,0,none⟩),.pointer (some ⟨p2,0,none⟩)])) rfl (by kernel_rfl) (by kernel_rfl) (by kernel_rfl) (fun _ _ _ h=>h) (Or.inl ⟨by rfl,by(intro w hSw;go_simp)⟩) hHeld ?_
          simp only[Ab,A7,Aa,Am,A6,Ac,Ad];refine wpAnyH_take (i:=2) (v:=(.int .i64 (lo:Int))) rfl (by kernel_rfl) (by kernel_rfl) (by kernel_rfl) (fun _ _ _ h=>h) (Or.inl ⟨by rfl,by(intro w hSw;go_simp)⟩) hHeld ?_
          simp only[Ab,A7,Aa,Am,A6,Ac,Ad];refine wpAnyH_take (i:=3) (v:=(.int .i64 (hi:Int))) rfl (by kernel_rfl) (by kernel_rfl) (by kernel_rfl) (fun _ _ _ h=>h) (Or.inl ⟨by rfl,by(intro w hSw;go_simp)⟩) hHeld ?_
          simp only[Ab,A7,Aa,Am,A6,Ac,Ad];refine wpAnyH_take (i:=5) (v:=(.int .i64 (p:Int))) rfl (by kernel_rfl) (by kernel_rfl) (by kernel_rfl) (fun _ _ _ h=>h) (Or.inl ⟨by rfl,by(intro w hSw;go_simp)⟩) hHeld ?_
          simp only[Ab,A7,Aa,Am,A6,Ac,Ad];refine wpAnyH_take (i:=7) (v:=(.pointer (some ⟨p3,1,none⟩))) rfl (by kernel_rfl) (by kernel_rfl) (by kernel_rfl) (fun _ _ _ h=>h) (Or.inl ⟨by rfl,by(intro w hSw;go_simp)⟩) hHeld ?_
          simp only[Ab,A7,Aa,Am,A6,Ac,Ad];refine wpAnyH_take (i:=8) (v:=(.int .i64 (at_:Int))) rfl (by kernel_rfl) (by kernel_rfl) (by kernel_rfl) (fun _ _ _ h=>h) (Or.inl ⟨by rfl,by(intro w hSw;go_simp)⟩) hHeld ?_
          simp only[Ab,A7,Aa,Am,A6,Ac,Ad];refine wpAnyH_take (i:=13) (v:=(.func (.func 66) #[] #[.pointer (some ⟨p3,0,none⟩),.pointer (some ⟨p2,0,none⟩)])) rfl (by kernel_rfl) (by kernel_rfl) (by kernel_rfl) (fun _ _ _ h=>h) (Or.inl ⟨by rfl,by(intro w hSw;go_simp)⟩) hHeld ?_
          simp only[Ab,A7,Aa,Am,A6,Ac,Ad];refine wpAnyH_take (i:=15) (v:=(.int .i64 (p:Int))) rfl (by kernel_rfl) (by kernel_rfl) (by kernel_rfl) (fun _ _ _ h=>h) (Or.inl ⟨by rfl,by(intro w hSw;go_simp)⟩) hHeld ?_
          simp only[Ab,A7,Aa,Am,A6,Ac,Ad];refine wpAnyH_take (i:=17) (v:=(.int .i64 (lo:Int))) rfl (by kernel_rfl) (by kernel_rfl) (by kernel_rfl) (fun _ _ _ h=>h) (Or.inl ⟨by rfl,by(intro w hSw;go_simp)⟩) hHeld ?_
          simp only[Ab,A7,Aa,Am,A6,Ac,Ad];refine wpAnyH_take (i:=18) (v:=(.int .i64 (hi:Int))) rfl (by kernel_rfl) (by kernel_rfl) (by kernel_rfl) (fun _ _ _ h=>h) (Or.inl ⟨by rfl,by(intro w hSw;go_simp)⟩) hHeld ?_
          simp only[Ab,A7,Aa,Am,A6,Ac,Ad];refine wpAnyH_take (i:=20) (v:=(.pointer (some ⟨p3,1,none⟩))) rfl (by kernel_rfl) (by kernel_rfl) (by kernel_rfl) (fun _ _ _ h=>h) (Or.inl ⟨by rfl,by(intro w hSw;go_simp)⟩) hHeld ?_
          simp only[Ab,A7,Aa,Am,A6,Ac,Ad];refine wpAnyH_take (i:=21) (v:=(.int .i64 (at_:Int))) rfl (by kernel_rfl) (by kernel_rfl) (by kernel_rfl) (fun _ _ _ h=>h) (Or.inl ⟨by rfl,by(intro w hSw;go_simp)⟩) hHeld ?_
          simp only[Ab,A7,Aa,Am,A6,Ac,Ad];refine wpAnyH_ready (rs:=[1]) (by kernel_rfl) (by simp) ?_
          refine Ah rfl (fun K hK=>?_) Ak
          refine Kf rfl 66 #[.pointer (some ⟨p3,0,none⟩),.pointer (some ⟨p2,0,none⟩)] 131 rfl (by kernel_rfl) (fun v w'=>∃g,v=.pointer (some ⟨g,0,none⟩)∧W.heap.size≤g∧wa.drew.heap.size≤g∧Mb w' g B n d (st,[])∧Al wa.drew w'∧Al W w') ((HBE.out hxwad).mono fun e w' ⟨g,h1,h2,h3,h4,h5⟩=>⟨_,h1,g,rfl,h2,h3,h4,h5,hxwad.trans h5⟩) ?_
          rintro v w4 ⟨g4,rfl,hg4,hg4',hJw4,hEw4,hxw4⟩;refine hK.out _ _ (Qp.out _ hxw4) (fun hHeld=>?_)
          clear hK K;simp only[Ab,A7,Aa,Am,A6,Ac,Ad];refine wpAnyH_ready (rs:=[4]) (by kernel_rfl) (by simp) ?_
          refine Ah rfl (fun K hK=>?_) Ak
          refine Bs rfl 69 #[.pointer (some ⟨g4,0,none⟩),.int .i64 (lo:Int),.int .i64 (hi:Int)] rfl (by kernel_rfl) (fun v w'=>v=.pointer (some ⟨g4,0,none⟩)∧Mb w' g4 B n d (Dd b (st,[]) lo hi)∧Cv w4 w' g4∧Al W w') ((HOV.out hJw4 hxw4 hg4 hst M2 hhn (Aw _)).mono fun e w' ⟨h1,h2,h3⟩=>⟨_,h1,rfl,h2,h3,h3 W hxw4 hg4⟩) ?_
          rintro v w5 ⟨rfl,hJw5,hKw5,hxw5⟩;refine hK.out _ _ (Qp.out _ hxw5) (fun hHeld=>?_)
          clear hK K;simp only[Ab,A7,Aa,Am,A6,Ac,Ad];refine wpAnyH_ready (rs:=[6]) (by kernel_rfl) (by simp) ?_
          refine Ah rfl (fun K hK=>?_) Ak
          refine Bs rfl 70 #[.pointer (some ⟨g4,0,none⟩),.int .i64 (p:Int)] rfl (by kernel_rfl) (fun v w'=>v=.pointer (some ⟨g4,0,none⟩)∧Mb w' g4 B n d (Dc b (Dd b (st,[]) lo hi) p)∧Cv w5 w' g4∧Al W w') ((HER.out hJw5 hxw5 hg4 hq1 hpn he1').mono fun e w' ⟨h1,h2,h3⟩=>⟨_,h1,rfl,h2,h3,h3 W hxw5 hg4⟩) ?_
          rintro v w6 ⟨rfl,hJw6,hKw6,hxw6⟩;refine hK.out _ _ (Qp.out _ hxw6) (fun hHeld=>?_)
          clear hK K;simp only[Ab,A7,Aa,Am,A6,Ac,Ad];refine wpAnyH_ready (rs:=[9]) (by kernel_rfl) (by simp) ?_
          refine Ah rfl (fun K hK=>?_) Ak
          refine Bs rfl 68 #[.pointer (some ⟨g4,0,none⟩),.int .i64 (at_:Int)] rfl (by kernel_rfl) (fun v w'=>v=.pointer (some ⟨g4,0,none⟩)∧Mb w' g4 B n d (H7 b (Dc b (Dd b (st,[]) lo hi) p) at_)∧Cv w6 w' g4∧Al W w') ((HTO.out hJw6 hxw6 hg4 hq2 he2).mono fun e w' ⟨h1,h2,h3⟩=>⟨_,h1,rfl,h2,h3,h3 W hxw6 hg4⟩) ?_
          rintro v w7 ⟨rfl,hJw7,hKw7,hxw7⟩;obtain⟨S7,q7,r7,k7,ho7⟩:=hJw7.own;have hWR:Al wa w7:=(Al.drew wa).trans (hKw7 _ (hKw6 _ (hKw5 _ hEw4 hg4') hg4') hg4');refine hK.out _ _ (Qp.out _ hxw7) (fun hHeld=>?_)
          clear hK K;simp only[Ab,A7,Aa,Am,A6,Ac,Ad];refine wpAnyH_take (i:=10) (v:=(.pointer (some ⟨g4,0,none⟩))) rfl (by kernel_rfl) (by kernel_rfl) (by kernel_rfl) (fun _ _ _ h=>h) (Or.inl ⟨by rfl,by(intro w hSw;go_simp)⟩) hHeld ?_
          simp only[Ab,A7,Aa,Am,A6,Ac,Ad];refine wpAnyH_take (i:=11) (v:=(.pointer (some ⟨g4,2,none⟩))) rfl (by kernel_rfl) (by kernel_rfl) (by kernel_rfl) (fun _ _ _ h=>h) (Or.inl ⟨by rfl,by(intro w hSw;go_simp)⟩) hHeld ?_
          simp only[Ab,A7,Aa,Am,A6,Ac,Ad];refine Rj (S':=fun w'=>w'.cell? ⟨p3,1,none⟩=some (.int .i64 (at_:Int))∧w'.cell? ⟨g4,2,none⟩=some (.slice S7 q7 r7)) (fun w h=>h.1) _ _ _ _ ?_
          have hHeld:w7.cell? ⟨p3,1,none⟩=some (.int .i64 (at_:Int))∧w7.cell? ⟨g4,2,none⟩=some (.slice S7 q7 r7):=⟨hHeld,k7⟩;refine wpAnyH_take (i:=12) (v:=(.slice S7 q7 r7)) rfl (by kernel_rfl) (by kernel_rfl) (by kernel_rfl) (fun _ _ _ h=>h) (Or.inl ⟨by rfl,by(intro w hSw;obtain⟨hs1,hs2⟩:=hSw;go_simp)⟩) hHeld ?_
          simp only[Ab,A7,Aa,Am,A6,Ac,Ad];refine wpAnyH_ready (rs:=[14]) (by kernel_rfl) (by simp) ?_
          refine Ah rfl (fun K hK=>?_) Ak
          refine Kf rfl 66 #[.pointer (some ⟨p3,0,none⟩),.pointer (some ⟨p2,0,none⟩)] 144 rfl (by kernel_rfl) (fun v w'=>∃g,v=.pointer (some ⟨g,0,none⟩)∧W.heap.size≤g∧w7.heap.size≤g∧Mb w' g B n d (st,[])∧Al w7 w'∧Al W w') ((HBE.out hxw7).mono fun e w' ⟨g,h1,h2,h3,h4,h5⟩=>⟨_,h1,g,rfl,h2,h3,h4,h5,hxw7.trans h5⟩) ?_
          rintro v w8 ⟨g8,rfl,hg8,hg8',hJw8,hEw8,hxw8⟩;refine hK.out _ _ ⟨Qp.out _ hxw8,hEw8.cell k7⟩ (fun hHeld=>?_)
          clear hK K;simp only[Ab,A7,Aa,Am,A6,Ac,Ad];refine wpAnyH_ready (rs:=[16]) (by kernel_rfl) (by simp) ?_
          refine Ah rfl (fun K hK=>?_) Ak
          refine Bs rfl 70 #[.pointer (some ⟨g8,0,none⟩),.int .i64 (p:Int)] rfl (by kernel_rfl) (fun v w'=>v=.pointer (some ⟨g8,0,none⟩)∧Mb w' g8 B n d (Dc b (st,[]) p)∧Cv w8 w' g8∧Al W w') ((HER.out hJw8 hxw8 hg8 hst hpn (Aw _)).mono fun e w' ⟨h1,h2,h3⟩=>⟨_,h1,rfl,h2,h3,h3 W hxw8 hg8⟩) ?_
          rintro v w9 ⟨rfl,hJw9,hKw9,hxw9⟩;have hEw9:=hKw9 _ hEw8 hg8';refine hK.out _ _ ⟨Qp.out _ hxw9,hEw9.cell k7⟩ (fun hHeld=>?_)
          clear hK K;simp only[Ab,A7,Aa,Am,A6,Ac,Ad];refine wpAnyH_ready (rs:=[19]) (by kernel_rfl) (by simp) ?_
          refine Ah rfl (fun K hK=>?_) Ak
          refine Bs rfl 69 #[.pointer (some ⟨g8,0,none⟩),.int .i64 (lo:Int),.int .i64 (hi:Int)] rfl (by kernel_rfl) (fun v w'=>v=.pointer (some ⟨g8,0,none⟩)∧Mb w' g8 B n d (Dd b (Dc b (st,[]) p) lo hi)∧Cv w9 w' g8∧Al W w') ((HOV.out hJw9 hxw9 hg8 hp0 M2 hhn hd1).mono fun e w' ⟨h1,h2,h3⟩=>⟨_,h1,rfl,h2,h3,h3 W hxw9 hg8⟩) ?_
          rintro v w10 ⟨rfl,hJw10,hKw10,hxw10⟩;have hEw10:=hKw10 _ hEw9 hg8';refine hK.out _ _ ⟨Qp.out _ hxw10,hEw10.cell k7⟩ (fun hHeld=>?_)
          clear hK K;simp only[Ab,A7,Aa,Am,A6,Ac,Ad];refine wpAnyH_ready (rs:=[22]) (by kernel_rfl) (by simp) ?_
          refine Ah rfl (fun K hK=>?_) Ak
          refine Bs rfl 68 #[.pointer (some ⟨g8,0,none⟩),.int .i64 (at_:Int)] rfl (by kernel_rfl) (fun v w'=>v=.pointer (some ⟨g8,0,none⟩)∧Mb w' g8 B n d (H7 b (Dd b (Dc b (st,[]) p) lo hi) at_)∧Cv w10 w' g8∧Al W w') ((HTO.out hJw10 hxw10 hg8 hq3 he3).mono fun e w' ⟨h1,h2,h3⟩=>⟨_,h1,rfl,h2,h3,h3 W hxw10 hg8⟩) ?_
          rintro v w11 ⟨rfl,hJw11,hKw11,hxw11⟩;have hEw11:=hKw11 _ hEw10 hg8';obtain⟨S11,q11,r11,k11,ho11⟩:=hJw11.own;refine hK.out _ _ ⟨Qp.out _ hxw11,hEw11.cell k7⟩ (fun hHeld=>?_)
          clear hK K;simp only[Ab,A7,Aa,Am,A6,Ac,Ad];refine wpAnyH_take (i:=23) (v:=(.pointer (some ⟨g8,0,none⟩))) rfl (by kernel_rfl) (by kernel_rfl) (by kernel_rfl) (fun _ _ _ h=>h) (Or.inl ⟨by rfl,by(intro w hSw;obtain⟨hs1,hs2⟩:=hSw;go_simp)⟩) hHeld ?_
          simp only[Ab,A7,Aa,Am,A6,Ac,Ad];refine wpAnyH_take (i:=24) (v:=(.pointer (some ⟨g8,2,none⟩))) rfl (by kernel_rfl) (by kernel_rfl) (by kernel_rfl) (fun _ _ _ h=>h) (Or.inl ⟨by rfl,by(intro w hSw;obtain⟨hs1,hs2⟩:=hSw;go_simp)⟩) hHeld ?_
          simp only[Ab,A7,Aa,Am,A6,Ac,Ad];refine Rj (S':=fun w'=>(w'.cell? ⟨p3,1,none⟩=some (.int .i64 (at_:Int))∧w'.cell? ⟨g4,2,none⟩=some (.slice S7 q7 r7))∧w'.cell? ⟨g8,2,none⟩=some (.slice S11 q11 r11)) (fun w h=>h.1) _ _ _ _ ?_
          have hHeld:(w11.cell? ⟨p3,1,none⟩=some (.int .i64 (at_:Int))∧w11.cell? ⟨g4,2,none⟩=some (.slice S7 q7 r7))∧w11.cell? ⟨g8,2,none⟩=some (.slice S11 q11 r11):=⟨hHeld,k11⟩;refine wpAnyH_take (i:=25) (v:=(.slice S11 q11 r11)) rfl (by kernel_rfl) (by kernel_rfl) (by kernel_rfl) (fun _ _ _ h=>h) (Or.inl ⟨by rfl,by(intro w hSw;obtain⟨hs1,hs2⟩:=hSw;go_simp)⟩) hHeld ?_
          simp only[Ab,A7,Aa,Am,A6,Ac,Ad];have hx12:=Al.alloc w11 (.cells #[.slice S7 q7 r7,.slice S11 q11 r11] 27);refine wpAnyH_ready (rs:=[26]) (by kernel_rfl) (by simp) ?_
          refine Ah rfl (fun K hK=>?_) Ak
          go_simp
          refine hK.out _ _ ⟨⟨hx12.cell hHeld.1.1,hx12.cell hHeld.1.2⟩,hx12.cell hHeld.2⟩ (fun hHeld=>?_)
          clear hK K
          try simp only[Ab,A7,Aa,Am,A6,Ac,Ad]
          refine wpAnyH_take (i:=27) (v:=(.slice (some ⟨w11.heap.size,0,none⟩) 2 2)) rfl (by kernel_rfl) (by kernel_rfl) (by kernel_rfl) (fun _ _ _ h=>h) (Or.inl ⟨by rfl,by(intro w hSw;go_simp)⟩) hHeld ?_
          simp only[Ab,A7,Aa,Am,A6,Ac,Ad];refine wpAnyH_done (by kernel_rfl) ?_ _
          have hEa:Al wa w11:=hWR.trans hEw11;have hL:Hid (Nq (w11.alloc (.cells #[.slice S7 q7 r7,.slice S11 q11 r11] 27)) w.heap.size w11.heap.size [fH b st at_ p lo hi,pU b st at_ p lo hi]):=A4 (Nq.two (An.new w11 _ _) (Av.ext (Av.ext (Ay.lower ho7 (by have:=HSZ.out;omega)) hEw11) (Al.alloc _ _)) (Av.ext (Ay.lower ho11 (by have:=HSZ.out;omega)) (Al.alloc _ _)))
          rw[←hWY.out]at hL;have hO12:Hid (Av (w11.alloc (.cells #[.slice S7 q7 r7,.slice S11 q11 r11] 27)) w.heap.size S q r bst):=A4 (Av.ext hO6.out (hEa.trans hx12));have hX12:Hid (Al W (w11.alloc (.cells #[.slice S7 q7 r7,.slice S11 q11 r11] 27))):=A4 (hxw11.to_alloc _);have hWL:Hid (2=(L5 b st at_ p lo hi).length):=A4 (by rw[hWY.out];rfl)
          clear hJw4 hEw4 hxw4 hJw5 hKw5 hxw5 hJw6 hKw6 hxw6 hJw7 hKw7 hxw7 k7 ho7 hWR hJw8 hEw8 hxw8 hJw9 hKw9 hxw9 hEw9 hJw10 hKw10 hxw10 hEw10 hJw11 hKw11 hxw11 hEw11 k11 ho11 hx12 hEa hHeld k31 k31d hWY;go_wp2_with fail
          go_meet
          exact⟨w11.heap.size,2,rfl,hWL.out,hL,hO12,hX12⟩
         |false=>
          have hlh:¬lo<hi:=by have:=HMO.out;simpa using this
          have hWY:L5 b st at_ p lo hi=[aM b st at_ p]:=by unfold L5;rw[if_neg hlh]
          rw[←hWY]at hL;have hWL:Hid (1=(L5 b st at_ p lo hi).length):=A4 (by rw[hWY];rfl)
          clear hWY hlh;go_wp2_with fail
          go_meet
          exact⟨gL,1,rfl,hWL.out,hL,hO6,hX6⟩
        case rest=>
         obtain⟨gL,kL,rfl,hkL,hL,hO,hX⟩:=hcut
         rename World=>wb
         clear hO6 hX6;have HKL:=A4 hkL;clear hkL;have hkb:kL≤2:=by rw[HKL.out];unfold L5;split<;>simp
         have hall:=Be HKL (Be hL HS4);clear HKL hL HS4
         revert hall
         generalize L5 b st at_ p lo hi=ws;rintro⟨HKL,hL,HS4⟩;go_wp2_with fail
         go_loopw [13,160] (fun s13 s160 wr=>∃(i q r:Nat) (S:Option Addr),i≤kL∧s160=.int .i64 i∧s13=.slice S q r∧Hid (Av wb w.heap.size S q r (Fc bst (ws.take i)))∧wb=wr) (fun _ s160 _=>kL-(intOf s160).toNat)
         case atStart=>exact⟨0,q,r,S,by omega,rfl,rfl,hO,rfl⟩
         case round=>
          clear hO;obtain⟨i,q,r,S,hik,rfl,rfl,HOi,rfl⟩:=hrel;by_cases hlt:i<kL
          ·obtain⟨Si,qi,ri,ci,oi⟩:=hL.out i (by rw[←HKL.out];exact hlt)
           have HQI:Hid ((ws[i]?.getD []).length=qi):=A4 (Av.ints oi).len;have HQ:Hid ((Fc bst (ws.take i)).length=q):=A4 (Av.ints HOi.out).len;have HB1:Hid (Fc bst (ws.take (i+1))=Hd (Fc bst (ws.take i)) (ws[i]?.getD [])):=A4 (by rw[bI (by rw[←HKL.out];exact hlt),aG])
           have OI:=A4 oi;clear oi;by_cases hc:qi<q
           ·have hcd:decide (qi<q)=true:=by simpa using hc
            have hcd2:decide ((qi:Int)<(q:Int))=true:=by simp;omega
            have HN:Hid (Av wb w.heap.size Si qi ri (Fc bst (ws.take (i+1)))):=A4 (by
             rw[HB1.out];unfold Hd;rw[if_pos (by rw[HQI.out,HQ.out];exact hc)]
             exact OI.out)
            clear hc HOi HQI HQ HB1 OI;go_wp2_with fail
            go_roundw
            case rel=>exact⟨i+1,qi,ri,Si,by omega,by go_num,rfl,HN,trivial⟩
            case measure=>simp[intOf];omega
           ·have hcd:decide (qi<q)=false:=by simpa using hc
            have hcd2:decide ((qi:Int)<(q:Int))=false:=by simp;omega
            have HN:Hid (Av wb w.heap.size S q r (Fc bst (ws.take (i+1)))):=A4 (by
             rw[HB1.out];unfold Hd;rw[if_neg (by rw[HQI.out,HQ.out];exact hc)]
             exact HOi.out)
            clear hc HOi HQI HQ HB1 OI;go_wp2_with fail
            go_roundw
            case rel=>exact⟨i+1,q,r,S,by omega,by go_num,rfl,HN,trivial⟩
            case measure=>simp[intOf];omega
          ·obtain rfl:i=kL:=by omega
           have HN:Hid (Av wb w.heap.size S q r (Fc bst ws)):=A4 (by
            have:=HOi.out;rw[List.take_of_length_le (by rw[←HKL.out];exact Ai _)]at this
            exact this)
           clear HOi;go_wp2_with fail
           go_roundw
           case rel=>exact⟨p+1,q,r,S,Fc bst ws,by omega,by omega,by go_num,rfl,HN,HS4,hX⟩
           case measure=>simp[intOf];omega
      ·obtain rfl:p=fi+1:=by omega
       have HF:Hid (eA w (Ec a st b at_) (.returned (.tuple #[.slice S q r,.int .i64 0])) wr):=A4 ⟨S,q,r,rfl,by rw[HS3.out,Nat.sub_self];exact HO.out,HX.out.trans HXr.out⟩
       clear HS3 HO;go_wp2_with fail
       go_ret2
       exact HF.out
    ·have t2:decide (fi<fh)=false:=by simpa using htl
     have HF:Hid (eA w (Ec a st b at_) (.returned (.tuple #[.slice S q r,.int .i64 0])) w9):=A4 ⟨S,q,r,rfl,by rw[HS2.out,if_neg htl];exact HO9.out,HX.out.trans HX9.out⟩
     clear HS2;go_wp2_with fail
     go_ret2
     exact HF.out
 ·have t1:decide (x<y)=false:=by simpa using hxy
  have HS2:Hid (Ec a st b at_=(H7 b (st,[]) at_).2):=A4 (by rw[HS.out,if_neg hxy])
  clear HS hxy;have hxd:=hx3.to_drew;have k31:=Qp.out w3 hx3;have k31d:=Qp.out _ hxd;go_wp2_with fail
  go_region_law (first
   |(
    refine Kf rfl 66 #[.pointer (some ⟨p3,0,none⟩),.pointer (some ⟨p2,0,none⟩)] 56 rfl (by kernel_rfl) (fun v w'=>∃g,v=.pointer (some ⟨g,0,none⟩)∧W.heap.size≤g∧Mb w' g B n d (st,[])∧Al W w') ((HBE.out hxd).mono fun e w' ⟨g,h1,h2,h3,h4,h5⟩=>⟨_,h1,g,rfl,h2,h4,hxd.trans h5⟩) ?_
    rintro v w4 ⟨g,rfl,hg,hJ4,hx4⟩;have k31:=Qp.out w4 hx4)
   |(
    refine Bs rfl 68 #[.pointer (some ⟨g,0,none⟩),.int .i64 (at_:Int)] rfl (by kernel_rfl) (fun v w'=>v=.pointer (some ⟨g,0,none⟩)∧Mb w' g B n d (H7 b (st,[]) at_)∧Al W w') ((HTO.out hJ4 hx4 hg hst (Aw _)).mono fun e w' ⟨h1,h2,h3⟩=>⟨_,h1,rfl,h2,h3 W hx4 hg⟩) ?_
    rintro v w5 ⟨rfl,hJ5,hx5⟩;obtain⟨S,q,r,k5,ho5⟩:=hJ5.own))
  all_goals
   have HF:Hid (eA w (Ec a st b at_) (.returned (.tuple #[.slice S q r,.int .i64 0])) w5):=A4 ⟨S,q,r,rfl,by rw[HS2.out];exact Ay.lower ho5 (by have:=HSZ.out;omega),HX.out.trans hx5⟩
   clear hJ5 k5 ho5 hJ4 hx4 k31;go_simp
   go_wp2_with fail
   go_ret2
   exact HF.out
theorem bU {n c m d:Nat}{l:List Int}{a:Int}(h1:Bi w A n c l)(h2:Bi w B m d l):
 Calls Tryz.prog 22 #[.agg #[.slice A n c,.int .i64 a],.agg #[.slice B m d,.int .i64 a]] w fun e w'=>e=.returned (.bool true)∧Al w w':=by
 have hx0:Al w ((w.alloc (.cells #[.slice A n c,.int .i64 a] 43)).alloc (.cells #[.slice B m d,.int .i64 a] 43)):=(Al.alloc _ _).to_alloc _;have HE:=A4 (J4 (h1.ext hx0) (h2.ext hx0));have HX:=A4 hx0;clear h1 h2 hx0;go_enter Tryz.func22,Tryz.ntmps22
 go_wp2_with fail
 refine HE.out.mono ?_
 rintro e w1 ⟨rfl,he⟩;have HE2:=A4 (HX.out.trans he);have hq:V6 l l=true:=by simp[V6]
 rw[hq];clear HE HX he hq;go_wp2_with fail
 go_ret
 exact⟨rfl,HE2.out⟩
end
