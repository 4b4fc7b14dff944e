/-
  Part ZTermX.
-/
import Derived.Test.YtkaefdmhlmlhbaaGreatZPaiW
import Derived.Deep.RegionHeld3
import Derived.IntWalk
import Derived.BigRegion
set_option maxRecDepth 100000
set_option maxHeartbeats 16000000
set_option linter.unusedVariables false
set_option linter.unusedSimpArgs false
namespace Go.Proofs.YtkaefdmhlmlhbaaGreat
open Go.RowKit
open Region renaming wanted→Bs
open Act renaming put→Ap
open AllReadyH renaming cons→Ai,nil→Am
open _root_.And renaming intro→Bb
open _root_.List renaming getElem_cons_succ→Ab,getElem_cons_zero→Aa,getElem_toArray→Ac,length_append→Ba,setIfInBounds_toArray→A7,set_cons_succ→Ae,set_cons_zero→Ad
open _root_.Nat renaming le_refl→Aj,zero_le→Aw
section
variable {w:World}{B:Option Addr}
def Ta (l:List Int)(n:Nat)(at_:Int):Prop:=2≤n∧n≤120∧0≤at_∧at_≤n∧∀k,k<n→Nu (gI l k)
theorem Su {P:Program}{md:Region.Mode}{ops:Array Oper}{Q:Exit→Act→World→Prop}{S S':World→Prop}(hSS:∀w,S' w→S w):∀(fuel:Nat) (listed:Array Bool) (a:Act) (w:World),wpAnyH P md ops Q S' fuel listed a w→wpAnyH P md ops Q S fuel listed a w
 |0,_,_,_,h=>h
 |fuel+1,_,_,_,h=>⟨h.1,fun i hi=>wpOp_mono (fun a' w' h'=>⟨hSS _ h'.1,Su hSS fuel _ a' w' h'.2⟩) (h.2 i hi)⟩
theorem L7 {P:Program}{ops:Array Oper}{o:Oper}{a:Act}{K:Act→World→Prop}{Q:Exit→Act→World→Prop}{E:Prop}{ars:Array Operand}{tys:Array TypeId}(hgd:o.guard=none)
 (f:FuncId) (args:Array Value) (t:Tmp) (ho:o.op=.call { callee:=.value (.tmp t),args:=ars,argTypes:=tys }) (hrun:(execOp a.eval o).run P w=.ok (.enter f args) w) (R:Value→World→Prop)
 (hc:Calls P f args w fun e w'=>∃v,e=.returned v∧R v w') (h:∀v w',R v w'→K (a.put o.dst v) w'):if Bs o (yielded ops a.tmps)=true then Oper.wp P o a w K Q else E:=by
 have hw:Bs o (yielded ops a.tmps)=true:=by simp[Bs,hgd]
 rw[if_pos hw];exact I17
theorem Zj {p2 p3 m d st:Nat}(c3:w.cell? ⟨p3,0,none⟩=some (.slice B m d))(c2:w.cell? ⟨p2,1,none⟩=some (.int .i64 st)):
 Calls Tryz.prog 102 #[.pointer (some ⟨p3,0,none⟩),.pointer (some ⟨p2,0,none⟩)] w fun e w'=>∃g,e=.returned (.pointer (some ⟨g,0,none⟩))∧w.heap.size≤g∧No w' g B m d (st,[])∧An w w':=by
 have hx:=A6 (An.alloc w (.cells #[.slice B m d,.int .i64 (st:Int),.slice none 0 0] 178));have hb:=A6 (Aq.new w 178 #[.slice B m d,.int .i64 (st:Int),.slice none 0 0]);go_enter Tryz.func102,Tryz.ntmps102
 go_wp2_with fail
 go_ret
 exact⟨_,rfl,Nat.le_refl _,⟨none,0,0,hb.out,Av.nil _ _⟩,hx.out⟩
def gJ (w:World)(l:List Int)(e:Ending)(w':World):Prop:=∃S q r,e=.returned (.tuple #[.slice S q r,.int .i64 0])∧Av w' w.heap.size S q r l∧An w w'
theorem iV {g t:Nat}{u v:Value}(h:Aq w g t #[u,v]):w.cell? ⟨g,0,none⟩=some u∧w.cell? ⟨g,1,none⟩=some v:=⟨h.cell 0,h.cell 1⟩
def Q2 (w:World)(base g:Nat)(ws:List (List Int)):Prop:=∀i,i<ws.length→∃S q r,w.cell? ⟨g,i,none⟩=some (.slice S q r)∧Av w base S q r (ws[i]?.getD [])
theorem Q2.one {base g t q r:Nat}{S:Option Addr}{l:List Int}(h:Aq w g t #[.slice S q r])(ho:Av w base S q r l):Q2 w base g [l]:=fun i hi=>by
 obtain rfl:i=0:=by simp at hi;omega
 exact⟨S,q,r,h.cell 0,ho⟩
theorem Q2.two {base g t q r q' r':Nat}{S S':Option Addr}{l l':List Int}(h:Aq w g t #[.slice S q r,.slice S' q' r'])(ho:Av w base S q r l)(ho':Av w base S' q' r' l'):Q2 w base g [l,l']:=fun i hi=>by
 have:i=0∨i=1:=by simp at hi;omega
 rcases this with rfl|rfl
 ·exact⟨S,q,r,h.cell 0,ho⟩
 ·exact⟨S',q',r',h.cell 1,ho'⟩
theorem No.own {g m d:Nat}{j:Nat×List Int}(h:No w g B m d j):∃S q r,w.cell? ⟨g,2,none⟩=some (.slice S q r)∧Av w (g+1) S q r j.2:=
 let ⟨S,q,r,h1,h2⟩:=h;⟨S,q,r,h1.cell 2,h2⟩
theorem cK (x:List Int)(ws:List (List Int))(v:List Int):G3 x (ws++[v])=J8 (G3 x ws) v:=by unfold G3;rw[List.foldl_append];rfl
theorem dR {ws:List (List Int)}{i:Nat}(h:i<ws.length):ws.take (i+1)=ws.take i++[ws[i]?.getD []]:=by
 rw[List.take_succ_eq_append_getElem h];simp[h]
theorem pA {A B:Option Addr}{n c m d st at_:Nat}{a b:List Int}(ha:Bl w A n c a)(hb:Bl w B m d b)(hB:B=none→d=0)(ga:Ta a n st)(gb:Ta b m at_)(hnm:n=m):
 Calls Tryz.prog 69 #[.agg #[.slice A n c,.int .i64 st],.agg #[.slice B m d,.int .i64 at_]] w (gJ w (Eh a st b at_)):=by
 subst hnm;have hx0:An w ((w.alloc (.cells #[.slice A n c,.int .i64 st] 41)).alloc (.cells #[.slice B n d,.int .i64 at_] 41)):=(An.alloc _ _).to_alloc _;have b2:=(Aq.new w 41 #[.slice A n c,.int .i64 st]).ext (An.alloc _ (.cells #[.slice B n d,.int .i64 at_] 41));have b3:=Aq.new (w.alloc (.cells #[.slice A n c,.int .i64 st] 41)) 41 #[.slice B n d,.int .i64 at_];rw[World.size_alloc]at b3;have HX:=A6 hx0;have HA:=A6 (ha.ext hx0);have HB:=A6 (hb.ext hx0);have hnc:=ha.ncap;have hcm:=ha.nmax;have hmd:=hb.ncap;have hdm:=hb.nmax;unfold maxLen at hcm hdm;have hbl:=A6 hb.len;have HBN:=A6 hB;have hn1:=ga.1;have hn2:=ga.2.1;have hst:st≤n:=by have:=ga.2.2.2.1;omega
 have hat:at_≤n:=by have:=gb.2.2.2.1;omega
 have G1:=A6 ga;have G2:=A6 gb;have hnn:((n:Int) !=(n:Int))=false:=by simp
 obtain⟨S1,S2,S3,_,_⟩:=L4 a b (Aw n);have HS:Hid (Eh a st b at_=if Ew a b 0 n<Gu a b 0 n then(if Ew a b (F6 b n) n<Gu a b (F6 b n) n then Nd b st at_ (Ew a b 0 (F6 b n)) (Gu a b 0 (F6 b n)) (Ew a b (F6 b n) n+1-F6 b n) (F6 b n) (J5 b (Dg b (st,[]) (Ew a b 0 n) (Gu a b 0 n)) at_).2 else(J5 b (Dg b (st,[]) (Ew a b 0 n) (Gu a b 0 n)) at_).2)else(J5 b (st,[]) at_).2):=A6 (by
  unfold Eh;rw[hbl.out])
 have hall:=Bb b2 (Bb b3 (Bb HX (Bb HA HB)));clear hx0 b2 b3 HX HA HB ha hb ga gb hB;go_enter Tryz.func69,Tryz.ntmps69
 go_upto_region 1 with fail
 revert hall
 generalize (w.alloc (.cells #[.slice A n c,.int .i64 st] 41)).alloc (.cells #[.slice B n d,.int .i64 at_] 41)=W;obtain⟨p2,hp2⟩:∃p2,w.heap.size=p2:=⟨_,rfl⟩;obtain⟨p3,hp3⟩:∃p3,w.heap.size+1=p3:=⟨_,rfl⟩;rw[hp3,hp2];have HP:=A6 (Bb hp2 hp3);clear hp2 hp3;rintro⟨b2,b3,HX,HA,HB⟩;obtain⟨k20,k21⟩:=iV b2;obtain⟨k30,k31⟩:=iV b3;have K20:Hid (∀wq,An W wq→wq.cell? ⟨p2,0,none⟩=some (.slice A n c)):=A6 fun wq h=>h.cell k20
 have K21:Hid (∀wq,An W wq→wq.cell? ⟨p2,1,none⟩=some (.int .i64 st)):=A6 fun wq h=>h.cell k21
 have tL:Hid (∀wq,An W wq→wq.cell? ⟨p3,0,none⟩=some (.slice B n d)):=A6 fun wq h=>h.cell k30
 have S5:Hid (∀wq,An W wq→wq.cell? ⟨p3,1,none⟩=some (.int .i64 at_)):=A6 fun wq h=>h.cell k31
 have HSZ:Hid (w.heap.size≤W.heap.size):=A6 HX.out.hsize;have HC1:=A6 (Q7 HA.out G1.out.2.2.2.2 G1.out.1 G1.out.2.1 G1.out.2.2.1 G1.out.2.2.2.1);clear b2 b3;go_wp2_with fail
 refine HC1.out.mono ?_
 rintro e w1 ⟨rfl,he1⟩;clear HC1 k20 k21 k30 k31;have k30:=tL.out w1 he1;have HC2:=A6 (Q7 (HB.out.ext he1) G2.out.2.2.2.2 G2.out.1 G2.out.2.1 G2.out.2.2.1 G2.out.2.2.2.1);have k31:=S5.out w1 he1;go_wp2_with fail
 refine HC2.out.mono ?_
 rintro e w2 ⟨rfl,he2⟩;have hx2:=he1.trans he2;clear HC2 he1 he2 k30 k31;have k20:=K20.out w2 hx2;have k30:=tL.out w2 hx2;have HD:=A6 (Z5 (HA.out.ext hx2) (HB.out.ext hx2) (Aw n) (Aj n) (Aj n))
 revert S1 S2 S3 HS HD
 generalize Ew a b 0 n=x;generalize Gu a b 0 n=y;intro S1 S2 S3 HS HD;go_wp2_with fail
 refine HD.out.mono ?_
 rintro e w3 ⟨rfl,z,rfl⟩;have hx3:=hx2.to_drewN z;clear HD k20 k30 hx2;generalize w2.drewN z=w3 at*;have HTO:Hid (∀{wq:World} {g:Nat} {j:Nat×List Int},No wq g B n d j→An W wq→W.heap.size≤g→j.1≤n→j.2.length≤900000→Calls Tryz.prog 104 #[.pointer (some ⟨g,0,none⟩),.int .i64 at_] wq fun e w'=>e=.returned (.pointer (some ⟨g,0,none⟩))∧No w' g B n d (J5 b j at_)∧D1 wq w' g):=
  A6 fun h1 h2 h3 h4 h5=>xJ h1 HB.out HBN.out h2 h3 hn2 h4 hat (by omega)
 have HBE:Hid (∀{wq:World},An W wq→Calls Tryz.prog 102 #[.pointer (some ⟨p3,0,none⟩),.pointer (some ⟨p2,0,none⟩)] wq fun e w'=>∃g,e=.returned (.pointer (some ⟨g,0,none⟩))∧W.heap.size≤g∧wq.heap.size≤g∧No w' g B n d (st,[])∧An wq w'):=
  A6 fun h1=>(Zj (tL.out _ h1) (K21.out _ h1)).mono fun e w' ⟨g,h2,h3,h4,h5⟩=>⟨g,h2,Nat.le_trans h1.hsize h3,h3,h4,h5⟩
 have HOV:Hid (∀{wq:World} {g u v:Nat} {j:Nat×List Int},No wq g B n d j→An W wq→W.heap.size≤g→j.1≤n→u≤v→v≤n→j.2.length≤900000→Calls Tryz.prog 105 #[.pointer (some ⟨g,0,none⟩),.int .i64 u,.int .i64 v] wq fun e w'=>e=.returned (.pointer (some ⟨g,0,none⟩))∧No w' g B n d (Dg b j u v)∧D1 wq w' g):=
  A6 fun h1 h2 h3 h4 h5 h6 h7=>pZ h1 HB.out HBN.out h2 h3 hn2 h4 h5 h6 h7
 have HER:Hid (∀{wq:World} {g u:Nat} {j:Nat×List Int},No wq g B n d j→An W wq→W.heap.size≤g→j.1≤n→u≤n→j.2.length≤900000→Calls Tryz.prog 106 #[.pointer (some ⟨g,0,none⟩),.int .i64 u] wq fun e w'=>e=.returned (.pointer (some ⟨g,0,none⟩))∧No w' g B n d (Df b j u)∧D1 wq w' g):=
  A6 fun h1 h2 h3 h4 h5 h6=>lW h1 HB.out HBN.out h2 h3 hn2 h4 h5 h6
 have LT:∀(j:Nat×List Int) (k:Nat),j.1≤n→k≤n→(J5 b j k).2.length≤j.2.length+121:=fun j k h1 h2=>by
  have:=Sj (b:=b) (x:=j.1) (y:=k) (by omega) (by omega)
  show(j.2++G9 b j.1 k).length≤_
  rw[Ba];omega
 have LOv:Hid (∀(j:Nat×List Int) (u v:Nat),j.1≤n→u≤v→v≤n→(Dg b j u v).2.length≤j.2.length+241):=A6 fun j u v h1 h2 h3=>by
  have:=LT j u h1 (by omega)
  show((J5 b j u).2++(b.drop u).take (v-u)).length≤_
  rw[Ba,List.length_take];omega
 have LEr:Hid (∀(j:Nat×List Int) (u:Nat),j.1≤n→u≤n→(Df b j u).2.length≤j.2.length+241):=A6 fun j u h1 h2=>by
  have:=LT j u h1 h2
  show((J5 b j u).2++[11]).length≤_
  rw[Ba];simp;omega
 clear LT;by_cases hxy:x<y
 ·have t1:decide (x<y)=true:=by simpa using hxy
  have HS2:Hid (Eh a st b at_=if Ew a b (F6 b n) n<Gu a b (F6 b n) n then Nd b st at_ (Ew a b 0 (F6 b n)) (Gu a b 0 (F6 b n)) (Ew a b (F6 b n) n+1-F6 b n) (F6 b n) (J5 b (Dg b (st,[]) x y) at_).2 else(J5 b (Dg b (st,[]) x y) at_).2):=A6 (by rw[HS.out,if_pos hxy])
  have hl1:=LOv.out (st,[]) x y hst S2 S3;have hl1:(Dg b (st,[]) x y).2.length≤900000:=by simp only[List.length_nil]at hl1;omega
  have hl0:(Dg b (st,[]) x y).1≤n:=S3;clear HS hxy;have hxw3d:=hx3.to_drew;have k31:=S5.out w3 hx3;have k31d:=S5.out _ hxw3d;go_upto_region 14 with fail
  go_cut [13] (fun s13 wx=>∃S q r,s13=.slice S q r∧Hid (Av wx w.heap.size S q r (J5 b (Dg b (st,[]) x y) at_).2)∧Hid (An W wx))
  case first=>
   go_region_law (first
    |(
     refine L7 rfl 102 #[.pointer (some ⟨p3,0,none⟩),.pointer (some ⟨p2,0,none⟩)] 64 rfl (by kernel_rfl) (fun v w'=>∃g,v=.pointer (some ⟨g,0,none⟩)∧W.heap.size≤g∧w3.drew.heap.size≤g∧No w' g B n d (st,[])∧An w3.drew w'∧An W w') ((HBE.out hxw3d).mono fun e w' ⟨g,h1,h2,h3,h4,h5⟩=>⟨_,h1,g,rfl,h2,h3,h4,h5,hxw3d.trans h5⟩) ?_
     rintro v w4 ⟨g4,rfl,hg4,hg4',hJw4,hEw4,hxw4⟩;have k31:=S5.out w4 hxw4)
    |(
     refine By rfl 105 #[.pointer (some ⟨g4,0,none⟩),.int .i64 (x:Int),.int .i64 (y:Int)] rfl (by kernel_rfl) (fun v w'=>v=.pointer (some ⟨g4,0,none⟩)∧No w' g4 B n d (Dg b (st,[]) x y)∧D1 w4 w' g4∧An W w') ((HOV.out hJw4 hxw4 hg4 hst S2 S3 (Aw _)).mono fun e w' ⟨h1,h2,h3⟩=>⟨_,h1,rfl,h2,h3,h3 W hxw4 hg4⟩) ?_
     rintro v w5 ⟨rfl,hJw5,hKw5,hxw5⟩;have k31:=S5.out w5 hxw5)
    |(
     refine By rfl 104 #[.pointer (some ⟨g4,0,none⟩),.int .i64 (at_:Int)] rfl (by kernel_rfl) (fun v w'=>v=.pointer (some ⟨g4,0,none⟩)∧No w' g4 B n d (J5 b (Dg b (st,[]) x y) at_)∧D1 w5 w' g4∧An W w') ((HTO.out hJw5 hxw5 hg4 hl0 hl1).mono fun e w' ⟨h1,h2,h3⟩=>⟨_,h1,rfl,h2,h3,h3 W hxw5 hg4⟩) ?_
     rintro v w6 ⟨rfl,hJw6,hKw6,hxw6⟩;have k31:=S5.out w6 hxw6;obtain⟨S,q,r,k6,ho6⟩:=hJw6.own))
   all_goals
    have HO6:Hid (Av w6 w.heap.size S q r (J5 b (Dg b (st,[]) x y) at_).2):=A6 (Bd.lower ho6 (by have:=HSZ.out;omega))
    have HX6:=A6 hxw6;clear hJw6 k6 ho6 hJw4 hxw4 hJw5 hxw5 hxw6 k31 hl0 hl1;go_wp2_with fail
    go_meet
    exact⟨S,q,r,rfl,HO6,HX6⟩
  case rest=>
   obtain⟨S,q,r,rfl,HO,HX6⟩:=hcut;clear k31 k31d hxw3d hx3 hl1 hl0;generalize hbest:(J5 b (Dg b (st,[]) x y) at_).2=best at*;clear hbest
   rename World=>w7
   have k30:=tL.out w7 HX6.out;go_upto_block 0 with fail
   go_cut [14] (fun s14 wx=>s14=.int .i64 (F6 b n:Int)∧w7=wx)
   case first=>
    have HBX:=A6 (HB.out.ext HX6.out);go_wp2_with fail
    go_loopw [14] (fun v wr=>∃k:Nat,k≤n∧v=.int .i64 k∧Hid (F6 b n=F6 b k)∧w7=wr) (fun v _=>(intOf v).toNat)
    case atStart=>exact⟨n,Aj _,rfl,A6 rfl,rfl⟩
    case round=>
     obtain⟨k,hk,rfl,HF,rfl⟩:=hrel;rcases Nat.eq_zero_or_pos k with h0|h0
     ·subst h0
      have HF2:Hid ((F6 b n:Int)=0):=A6 (by rw[HF.out];rfl)
      clear HF;go_wp2_with fail
      go_meet
      exact⟨by rw[HF2.out];rfl,rfl⟩
     ·obtain⟨k',rfl⟩:∃k',k=k'+1:=⟨k-1,by omega⟩
      obtain⟨a1,e1,hc1⟩:=HBX.out.at_ (k:=k') (by omega)
      have c1:=hc1 k' (by omega)
      have e2:((k'+1:Nat):Int)-1=(k':Int):=by omega
      have hk'n:k'<n:=by omega
      subst e1;by_cases hq:gI b k'=32
      ·have HF2:Hid (F6 b n=F6 b k'):=A6 (by rw[HF.out];simp[F6,hq])
       rw[hq]at c1;clear HF hc1 hq;go_wp2_with fail
       go_roundw
       case rel=>exact⟨k',by omega,by first|rfl|(congr 1;omega),HF2,trivial⟩
       case measure=>simp[intOf]
      ·have HF2:Hid (F6 b n=k'+1):=A6 (by rw[HF.out];simp[F6,hq])
       have b1:(gI b k'==32)=false:=by simpa using hq
       clear HF hc1 hq;go_wp2_with fail
       go_meet
       exact⟨by rw[HF2.out],rfl⟩
   case rest=>
    obtain⟨rfl,rfl⟩:=hcut;have hful:=(Rp b n).1;obtain⟨M1,M2,M3,_,_⟩:=L4 a b (Aw (F6 b n));obtain⟨T1,T2,T3,_,_⟩:=L4 a b hful;have hall:=Bb hful (Bb M1 (Bb M2 (Bb M3 (Bb T1 (Bb T2 (Bb T3 HS2))))));clear hful M1 M2 M3 T1 T2 T3 HS2
    revert hall
    generalize F6 b n=full;rintro⟨hful,M1,M2,M3,T1,T2,T3,HS2⟩;have k20:=K20.out w7 HX6.out;have k30:=tL.out w7 HX6.out;have HD1:=A6 (Z5 (HA.out.ext HX6.out) (HB.out.ext HX6.out) (Aw full) hful hful);have HD2:Hid (∀z,Calls Tryz.prog 103 #[.slice A n c,.slice B n d,.int .i64 full,.int .i64 n] (w7.drewN z) (xX (w7.drewN z) (Ew a b full n) (Gu a b full n))):=A6 fun z=>Z5 (HA.out.ext (HX6.out.to_drewN z)) (HB.out.ext (HX6.out.to_drewN z)) hful (Aj n) (Aj n)
    have hall:=Bb HD1 (Bb HD2 (Bb HS2 (Bb M1 (Bb M2 (Bb M3 (Bb T1 (Bb T2 T3)))))));clear HD1 HD2 HS2 M1 M2 M3 T1 T2 T3
    revert hall
    generalize Ew a b 0 full=lo;generalize Gu a b 0 full=hi;generalize Ew a b full n=fi;generalize Gu a b full n=fh;rintro⟨HD1,HD2,HS2,M1,M2,M3,T1,T2,T3⟩;go_wp2_with fail
    refine HD1.out.mono ?_
    rintro e w8 ⟨rfl,z1,rfl⟩;obtain⟨mo,hmo⟩:∃mo,decide (lo<hi)=mo:=⟨_,rfl⟩;rw[hmo];have HMO:=A6 hmo;clear hmo;have HDz:=A6 (HD2.out z1);have HX8:=A6 (HX6.out.to_drewN z1);have HO8:=A6 (Av.ext HO.out (An.drewN w7 z1));clear HD1 HD2 k20 k30 HX6 HO
    revert HDz HX8 HO8
    generalize w7.drewN z1=w8;intro HDz HX8 HO8;have k20:=K20.out w8 HX8.out;have k30:=tL.out w8 HX8.out;go_wp2_with fail
    refine HDz.out.mono ?_
    rintro e w9 ⟨rfl,z2,rfl⟩;have HX9:=A6 (HX8.out.to_drewN z2);have HO9:=A6 (Av.ext HO8.out (An.drewN w8 z2));clear HDz k20 k30 HX8 HO8
    revert HX9 HO9
    generalize w8.drewN z2=w9;intro HX9 HO9;by_cases htl:fi<fh
    ·have t2:decide (fi<fh)=true:=by simpa using htl
     have HS3:Hid (Eh a st b at_=Nd b st at_ lo hi (fi+1-full) full best):=A6 (by rw[HS2.out,if_pos htl])
     clear HS2;go_wp2_with fail
     go_loopw [13,21] (fun s13 s21 wr=>∃(p q r:Nat) (S:Option Addr) (bst:List Int),full≤p∧p≤fi+1∧s21=.int .i64 p∧s13=.slice S q r∧Hid (Av wr w.heap.size S q r bst)∧Hid (Eh a st b at_=Nd b st at_ lo hi (fi+1-p) p bst)∧Hid (An W wr)) (fun _ s21 _=>fi+1-(intOf s21).toNat)
     case atStart=>exact⟨full,q,r,S,best,Aj _,by omega,rfl,rfl,HO9,HS3,HX9⟩
     case round=>
      clear HO9 HS3 HX9;obtain⟨p,q,r,S,bst,hp1,hp2,rfl,rfl,HO,HS3,HXr⟩:=hrel;by_cases hlt:p≤fi
      ·have hpn:p≤n:=by omega
       have HS4:Hid (Eh a st b at_=Nd b st at_ lo hi (fi+1-(p+1)) (p+1) (G3 bst (M5 b st at_ p lo hi))):=A6 (by
        rw[HS3.out];obtain⟨f,hf⟩:∃f,fi+1-p=f+1:=⟨fi-p,by omega⟩
        rw[hf,show fi+1-(p+1)=f by omega]
        rfl)
       have hd1:=LEr.out (st,[]) p hst hpn;have hd1:(Df b (st,[]) p).2.length≤900000:=by simp only[List.length_nil]at hd1;omega
       have hp0:(Df b (st,[]) p).1≤n:=hpn;have hxwrd:=HXr.out.to_drew;have k31:=S5.out wr HXr.out;have k31d:=S5.out _ hxwrd;clear HS3;go_upto_region 25 with fail
       go_cut [22] (fun s22 wx=>∃gL,s22=.slice (some ⟨gL,0,none⟩) 1 1∧Hid (Q2 wx w.heap.size gL [cS b st at_ p])∧Hid (Av wx w.heap.size S q r bst)∧Hid (An W wx))
       case first=>
        go_region_law (first
         |(
          refine L7 rfl 102 #[.pointer (some ⟨p3,0,none⟩),.pointer (some ⟨p2,0,none⟩)] 119 rfl (by kernel_rfl) (fun v w'=>∃g,v=.pointer (some ⟨g,0,none⟩)∧W.heap.size≤g∧wr.drew.heap.size≤g∧No w' g B n d (st,[])∧An wr.drew w'∧An W w') ((HBE.out hxwrd).mono fun e w' ⟨g,h1,h2,h3,h4,h5⟩=>⟨_,h1,g,rfl,h2,h3,h4,h5,hxwrd.trans h5⟩) ?_
          rintro v w4 ⟨g4,rfl,hg4,hg4',hJw4,hEw4,hxw4⟩;have k31:=S5.out w4 hxw4)
         |(
          refine By rfl 106 #[.pointer (some ⟨g4,0,none⟩),.int .i64 (p:Int)] rfl (by kernel_rfl) (fun v w'=>v=.pointer (some ⟨g4,0,none⟩)∧No w' g4 B n d (Df b (st,[]) p)∧D1 w4 w' g4∧An W w') ((HER.out hJw4 hxw4 hg4 hst hpn (Aw _)).mono fun e w' ⟨h1,h2,h3⟩=>⟨_,h1,rfl,h2,h3,h3 W hxw4 hg4⟩) ?_
          rintro v w5 ⟨rfl,hJw5,hKw5,hxw5⟩;have k31:=S5.out w5 hxw5)
         |(
          refine By rfl 104 #[.pointer (some ⟨g4,0,none⟩),.int .i64 (at_:Int)] rfl (by kernel_rfl) (fun v w'=>v=.pointer (some ⟨g4,0,none⟩)∧No w' g4 B n d (J5 b (Df b (st,[]) p) at_)∧D1 w5 w' g4∧An W w') ((HTO.out hJw5 hxw5 hg4 hp0 hd1).mono fun e w' ⟨h1,h2,h3⟩=>⟨_,h1,rfl,h2,h3,h3 W hxw5 hg4⟩) ?_
          rintro v w6 ⟨rfl,hJw6,hKw6,hxw6⟩;have k31:=S5.out w6 hxw6;obtain⟨S6,q6,r6,k6,ho6⟩:=hJw6.own;have hWR:An wr w6:=(An.drew wr).trans (hKw6 _ (hKw5 _ hEw4 hg4') hg4')))
        all_goals
         have hL:Hid (Q2 (w6.alloc (.cells #[.slice S6 q6 r6] 25)) w.heap.size w6.heap.size [cS b st at_ p]):=A6 (Q2.one (Aq.new w6 _ _) (Av.ext (Bd.lower ho6 (by have:=HSZ.out;omega)) (An.alloc _ _)))
         have hO6:Hid (Av (w6.alloc (.cells #[.slice S6 q6 r6] 25)) w.heap.size S q r bst):=A6 (Av.ext HO.out (hWR.to_alloc _));have hX6:Hid (An W (w6.alloc (.cells #[.slice S6 q6 r6] 25))):=A6 (hxw6.to_alloc _);clear hJw4 hEw4 hxw4 hJw5 hKw5 hxw5 hJw6 hKw6 hxw6 k6 ho6 hWR k31;go_wp2_with fail
         go_meet
         exact⟨w6.heap.size,rfl,hL,hO6,hX6⟩
       case rest=>
        obtain⟨gL,rfl,hL,hO6,hX6⟩:=hcut
        rename World=>wa
        clear HO HXr k31 k31d hxwrd;go_upto_if 130 with fail
        go_cut [22] (fun s22 wx=>∃gL k,s22=.slice (some ⟨gL,0,none⟩) k k∧k=(M5 b st at_ p lo hi).length∧Hid (Q2 wx w.heap.size gL (M5 b st at_ p lo hi))∧Hid (Av wx w.heap.size S q r bst)∧Hid (An W wx))
        case first=>
         cases mo with
         |true=>
          have hlh:lo<hi:=by have:=HMO.out;simpa using this
          have hWY:Hid (M5 b st at_ p lo hi=[iX b st at_ p lo hi,tO b st at_ p lo hi]):=A6 (by unfold M5;rw[if_pos hlh])
          have hxwad:=hX6.out.to_drew;have k31:=S5.out wa hX6.out;have k31d:=S5.out _ hxwad;have hhn:hi≤n:=by omega
          have he1:=LOv.out (st,[]) lo hi hst M2 hhn;have he1:(Dg b (st,[]) lo hi).2.length≤241:=by simp only[List.length_nil]at he1;omega
          have hq1:(Dg b (st,[]) lo hi).1≤n:=hhn;have he2:=LEr.out (Dg b (st,[]) lo hi) p hq1 hpn;have he2:(Df b (Dg b (st,[]) lo hi) p).2.length≤900000:=by omega
          have hq2:(Df b (Dg b (st,[]) lo hi) p).1≤n:=hpn;have he1':(Dg b (st,[]) lo hi).2.length≤900000:=by omega
          have he3:=LOv.out (Df b (st,[]) p) lo hi hp0 M2 hhn;have he0:=LEr.out (st,[]) p hst hpn;have he3:(Dg b (Df b (st,[]) p) lo hi).2.length≤900000:=by simp only[List.length_nil]at he0;omega
          have hq3:(Dg b (Df b (st,[]) p) lo hi).1≤n:=hhn;clear hlh he0;go_wp2_with fail
          refine wp_region_held_drew (S:=fun w'=>w'.cell? ⟨p3,1,none⟩=some (.int .i64 (at_:Int))) (by kernel_rfl) k31d (fun hHeld=>?_)
          refine wpAnyH_take (i:=0) (v:=(.func (.func 102) #[] #[.pointer (some ⟨p3,0,none⟩),.pointer (some ⟨p2,0,none⟩)])) rfl (by kernel_rfl) (by kernel_rfl) (by kernel_rfl) (fun _ _ _ h=>h) (Or.inl ⟨by rfl,by(intro w hSw;go_simp)⟩) hHeld ?_
          simp only[Ac,Aa,Ab,Ap,A7,Ad,Ae];refine wpAnyH_take (i:=2) (v:=(.int .i64 (lo:Int))) rfl (by kernel_rfl) (by kernel_rfl) (by kernel_rfl) (fun _ _ _ h=>h) (Or.inl ⟨by rfl,by(intro w hSw;go_simp)⟩) hHeld ?_
          simp only[Ac,Aa,Ab,Ap,A7,Ad,Ae];refine wpAnyH_take (i:=3) (v:=(.int .i64 (hi:Int))) rfl (by kernel_rfl) (by kernel_rfl) (by kernel_rfl) (fun _ _ _ h=>h) (Or.inl ⟨by rfl,by(intro w hSw;go_simp)⟩) hHeld ?_
          simp only[Ac,Aa,Ab,Ap,A7,Ad,Ae];refine wpAnyH_take (i:=5) (v:=(.int .i64 (p:Int))) rfl (by kernel_rfl) (by kernel_rfl) (by kernel_rfl) (fun _ _ _ h=>h) (Or.inl ⟨by rfl,by(intro w hSw;go_simp)⟩) hHeld ?_
          simp only[Ac,Aa,Ab,Ap,A7,Ad,Ae];refine wpAnyH_take (i:=7) (v:=(.pointer (some ⟨p3,1,none⟩))) rfl (by kernel_rfl) (by kernel_rfl) (by kernel_rfl) (fun _ _ _ h=>h) (Or.inl ⟨by rfl,by(intro w hSw;go_simp)⟩) hHeld ?_
          simp only[Ac,Aa,Ab,Ap,A7,Ad,Ae];refine wpAnyH_take (i:=8) (v:=(.int .i64 (at_:Int))) rfl (by kernel_rfl) (by kernel_rfl) (by kernel_rfl) (fun _ _ _ h=>h) (Or.inl ⟨by rfl,by(intro w hSw;go_simp)⟩) hHeld ?_
          simp only[Ac,Aa,Ab,Ap,A7,Ad,Ae];refine wpAnyH_take (i:=13) (v:=(.func (.func 102) #[] #[.pointer (some ⟨p3,0,none⟩),.pointer (some ⟨p2,0,none⟩)])) rfl (by kernel_rfl) (by kernel_rfl) (by kernel_rfl) (fun _ _ _ h=>h) (Or.inl ⟨by rfl,by(intro w hSw;go_simp)⟩) hHeld ?_
          simp only[Ac,Aa,Ab,Ap,A7,Ad,Ae];refine wpAnyH_take (i:=15) (v:=(.int .i64 (p:Int))) rfl (by kernel_rfl) (by kernel_rfl) (by kernel_rfl) (fun _ _ _ h=>h) (Or.inl ⟨by rfl,by(intro w hSw;go_simp)⟩) hHeld ?_
          simp only[Ac,Aa,Ab,Ap,A7,Ad,Ae];refine wpAnyH_take (i:=17) (v:=(.int .i64 (lo:Int))) rfl (by kernel_rfl) (by kernel_rfl) (by kernel_rfl) (fun _ _ _ h=>h) (Or.inl ⟨by rfl,by(intro w hSw;go_simp)⟩) hHeld ?_
          simp only[Ac,Aa,Ab,Ap,A7,Ad,Ae];refine wpAnyH_take (i:=18) (v:=(.int .i64 (hi:Int))) rfl (by kernel_rfl) (by kernel_rfl) (by kernel_rfl) (fun _ _ _ h=>h) (Or.inl ⟨by rfl,by(intro w hSw;go_simp)⟩) hHeld ?_
          simp only[Ac,Aa,Ab,Ap,A7,Ad,Ae];refine wpAnyH_take (i:=20) (v:=(.pointer (some ⟨p3,1,none⟩))) rfl (by kernel_rfl) (by kernel_rfl) (by kernel_rfl) (fun _ _ _ h=>h) (Or.inl ⟨by rfl,by(intro w hSw;go_simp)⟩) hHeld ?_
          simp only[Ac,Aa,Ab,Ap,A7,Ad,Ae];refine wpAnyH_take (i:=21) (v:=(.int .i64 (at_:Int))) rfl (by kernel_rfl) (by kernel_rfl) (by kernel_rfl) (fun _ _ _ h=>h) (Or.inl ⟨by rfl,by(intro w hSw;go_simp)⟩) hHeld ?_
          simp only[Ac,Aa,Ab,Ap,A7,Ad,Ae];refine wpAnyH_ready (rs:=[1]) (by kernel_rfl) (by simp) ?_
          refine Ai rfl (fun K hK=>?_) Am
          refine L7 rfl 102 #[.pointer (some ⟨p3,0,none⟩),.pointer (some ⟨p2,0,none⟩)] 131 rfl (by kernel_rfl) (fun v w'=>∃g,v=.pointer (some ⟨g,0,none⟩)∧W.heap.size≤g∧wa.drew.heap.size≤g∧No w' g B n d (st,[])∧An wa.drew w'∧An W w') ((HBE.out hxwad).mono fun e w' ⟨g,h1,h2,h3,h4,h5⟩=>⟨_,h1,g,rfl,h2,h3,h4,h5,hxwad.trans h5⟩) ?_
          rintro v w4 ⟨g4,rfl,hg4,hg4',hJw4,hEw4,hxw4⟩;refine hK.out _ _ (S5.out _ hxw4) (fun hHeld=>?_)
          clear hK K;simp only[Ac,Aa,Ab,Ap,A7,Ad,Ae];refine wpAnyH_ready (rs:=[4]) (by kernel_rfl) (by simp) ?_
          refine Ai rfl (fun K hK=>?_) Am
          refine By rfl 105 #[.pointer (some ⟨g4,0,none⟩),.int .i64 (lo:Int),.int .i64 (hi:Int)] rfl (by kernel_rfl) (fun v w'=>v=.pointer (some ⟨g4,0,none⟩)∧No w' g4 B n d (Dg b (st,[]) lo hi)∧D1 w4 w' g4∧An W w') ((HOV.out hJw4 hxw4 hg4 hst M2 hhn (Aw _)).mono fun e w' ⟨h1,h2,h3⟩=>⟨_,h1,rfl,h2,h3,h3 W hxw4 hg4⟩) ?_
          rintro v w5 ⟨rfl,hJw5,hKw5,hxw5⟩;refine hK.out _ _ (S5.out _ hxw5) (fun hHeld=>?_)
          clear hK K;simp only[Ac,Aa,Ab,Ap,A7,Ad,Ae];refine wpAnyH_ready (rs:=[6]) (by kernel_rfl) (by simp) ?_
          refine Ai rfl (fun K hK=>?_) Am
          refine By rfl 106 #[.pointer (some ⟨g4,0,none⟩),.int .i64 (p:Int)] rfl (by kernel_rfl) (fun v w'=>v=.pointer (some ⟨g4,0,none⟩)∧No w' g4 B n d (Df b (Dg b (st,[]) lo hi) p)∧D1 w5 w' g4∧An W w') ((HER.out hJw5 hxw5 hg4 hq1 hpn he1').mono fun e w' ⟨h1,h2,h3⟩=>⟨_,h1,rfl,h2,h3,h3 W hxw5 hg4⟩) ?_
          rintro v w6 ⟨rfl,hJw6,hKw6,hxw6⟩;refine hK.out _ _ (S5.out _ hxw6) (fun hHeld=>?_)
          clear hK K;simp only[Ac,Aa,Ab,Ap,A7,Ad,Ae];refine wpAnyH_ready (rs:=[9]) (by kernel_rfl) (by simp) ?_
          refine Ai rfl (fun K hK=>?_) Am
          refine By rfl 104 #[.pointer (some ⟨g4,0,none⟩),.int .i64 (at_:Int)] rfl (by kernel_rfl) (fun v w'=>v=.pointer (some ⟨g4,0,none⟩)∧No w' g4 B n d (J5 b (Df b (Dg b (st,[]) lo hi) p) at_)∧D1 w6 w' g4∧An W w') ((HTO.out hJw6 hxw6 hg4 hq2 he2).mono fun e w' ⟨h1,h2,h3⟩=>⟨_,h1,rfl,h2,h3,h3 W hxw6 hg4⟩) ?_
          rintro v w7 ⟨rfl,hJw7,hKw7,hxw7⟩;obtain⟨S7,q7,r7,k7,ho7⟩:=hJw7.own;have hWR:An wa w7:=(An.drew wa).trans (hKw7 _ (hKw6 _ (hKw5 _ hEw4 hg4') hg4') hg4');refine hK.out _ _ (S5.out _ hxw7) (fun hHeld=>?_)
          clear hK K;simp only[Ac,Aa,Ab,Ap,A7,Ad,Ae];refine wpAnyH_take (i:=10) (v:=(.pointer (some ⟨g4,0,none⟩))) rfl (by kernel_rfl) (by kernel_rfl) (by kernel_rfl) (fun _ _ _ h=>h) (Or.inl ⟨by rfl,by(intro w hSw;go_simp)⟩) hHeld ?_
          simp only[Ac,Aa,Ab,Ap,A7,Ad,Ae];refine wpAnyH_take (i:=11) (v:=(.pointer (some ⟨g4,2,none⟩))) rfl (by kernel_rfl) (by kernel_rfl) (by kernel_rfl) (fun _ _ _ h=>h) (Or.inl ⟨by rfl,by(intro w hSw;go_simp)⟩) hHeld ?_
          simp only[Ac,Aa,Ab,Ap,A7,Ad,Ae];refine Su (S':=fun w'=>w'.cell? ⟨p3,1,none⟩=some (.int .i64 (at_:Int))∧w'.cell? ⟨g4,2,none⟩=some (.slice S7 q7 r7)) (fun w h=>h.1) _ _ _ _ ?_
          have hHeld:w7.cell? ⟨p3,1,none⟩=some (.int .i64 (at_:Int))∧w7.cell? ⟨g4,2,none⟩=some (.slice S7 q7 r7):=⟨hHeld,k7⟩;refine wpAnyH_take (i:=12) (v:=(.slice S7 q7 r7)) rfl (by kernel_rfl) (by kernel_rfl) (by kernel_rfl) (fun _ _ _ h=>h) (Or.inl ⟨by rfl,by(intro w hSw;obtain⟨hs1,hs2⟩:=hSw;go_simp)⟩) hHeld ?_
          simp only[Ac,Aa,Ab,Ap,A7,Ad,Ae];refine wpAnyH_ready (rs:=[14]) (by kernel_rfl) (by simp) ?_
          refine Ai rfl (fun K hK=>?_) Am
          refine L7 rfl 102 #[.pointer (some ⟨p3,0,none⟩),.pointer (some ⟨p2,0,none⟩)] 144 rfl (by kernel_rfl) (fun v w'=>∃g,v=.pointer (some ⟨g,0,none⟩)∧W.heap.size≤g∧w7.heap.size≤g∧No w' g B n d (st,[])∧An w7 w'∧An W w') ((HBE.out hxw7).mono fun e w' ⟨g,h1,h2,h3,h4,h5⟩=>⟨_,h1,g,rfl,h2,h3,h4,h5,hxw7.trans h5⟩) ?_
          rintro v w8 ⟨g8,rfl,hg8,hg8',hJw8,hEw8,hxw8⟩;refine hK.out _ _ ⟨S5.out _ hxw8,hEw8.cell k7⟩ (fun hHeld=>?_)
          clear hK K;simp only[Ac,Aa,Ab,Ap,A7,Ad,Ae];refine wpAnyH_ready (rs:=[16]) (by kernel_rfl) (by simp) ?_
          refine Ai rfl (fun K hK=>?_) Am
          refine By rfl 106 #[.pointer (some ⟨g8,0,none⟩),.int .i64 (p:Int)] rfl (by kernel_rfl) (fun v w'=>v=.pointer (some ⟨g8,0,none⟩)∧No w' g8 B n d (Df b (st,[]) p)∧D1 w8 w' g8∧An W w') ((HER.out hJw8 hxw8 hg8 hst hpn (Aw _)).mono fun e w' ⟨h1,h2,h3⟩=>⟨_,h1,rfl,h2,h3,h3 W hxw8 hg8⟩) ?_
          rintro v w9 ⟨rfl,hJw9,hKw9,hxw9⟩;have hEw9:=hKw9 _ hEw8 hg8';refine hK.out _ _ ⟨S5.out _ hxw9,hEw9.cell k7⟩ (fun hHeld=>?_)
          clear hK K;simp only[Ac,Aa,Ab,Ap,A7,Ad,Ae];refine wpAnyH_ready (rs:=[19]) (by kernel_rfl) (by simp) ?_
          refine Ai rfl (fun K hK=>?_) Am
          refine By rfl 105 #[.pointer (some ⟨g8,0,none⟩),.int .i64 (lo:Int),.int .i64 (hi:Int)] rfl (by kernel_rfl) (fun v w'=>v=.pointer (some ⟨g8,0,none⟩)∧No w' g8 B n d (Dg b (Df b (st,[]) p) lo hi)∧D1 w9 w' g8∧An W w') ((HOV.out hJw9 hxw9 hg8 hp0 M2 hhn hd1).mono fun e w' ⟨h1,h2,h3⟩=>⟨_,h1,rfl,h2,h3,h3 W hxw9 hg8⟩) ?_
          rintro v w10 ⟨rfl,hJw10,hKw10,hxw10⟩;have hEw10:=hKw10 _ hEw9 hg8';refine hK.out _ _ ⟨S5.out _ hxw10,hEw10.cell k7⟩ (fun hHeld=>?_)
          clear hK K;simp only[Ac,Aa,Ab,Ap,A7,Ad,Ae];refine wpAnyH_ready (rs:=[22]) (by kernel_rfl) (by simp) ?_
          refine Ai rfl (fun K hK=>?_) Am
          refine By rfl 104 #[.pointer (some ⟨g8,0,none⟩),.int .i64 (at_:Int)] rfl (by kernel_rfl) (fun v w'=>v=.pointer (some ⟨g8,0,none⟩)∧No w' g8 B n d (J5 b (Dg b (Df b (st,[]) p) lo hi) at_)∧D1 w10 w' g8∧An W w') ((HTO.out hJw10 hxw10 hg8 hq3 he3).mono fun e w' ⟨h1,h2,h3⟩=>⟨_,h1,rfl,h2,h3,h3 W hxw10 hg8⟩) ?_
          rintro v w11 ⟨rfl,hJw11,hKw11,hxw11⟩;have hEw11:=hKw11 _ hEw10 hg8';obtain⟨S11,q11,r11,k11,ho11⟩:=hJw11.own;refine hK.out _ _ ⟨S5.out _ hxw11,hEw11.cell k7⟩ (fun hHeld=>?_)
          clear hK K;simp only[Ac,Aa,Ab,Ap,A7,Ad,Ae];refine wpAnyH_take (i:=23) (v:=(.pointer (some ⟨g8,0,none⟩))) rfl (by kernel_rfl) (by kernel_rfl) (by kernel_rfl) (fun _ _ _ h=>h) (Or.inl ⟨by rfl,by(intro w hSw;obtain⟨hs1,hs2⟩:=hSw;go_simp)⟩) hHeld ?_
          simp only[Ac,Aa,Ab,Ap,A7,Ad,Ae];refine wpAnyH_take (i:=24) (v:=(.pointer (some ⟨g8,2,none⟩))) rfl (by kernel_rfl) (by kernel_rfl) (by kernel_rfl) (fun _ _ _ h=>h) (Or.inl ⟨by rfl,by(intro w hSw;obtain⟨hs1,hs2⟩:=hSw;go_simp)⟩) hHeld ?_
          simp only[Ac,Aa,Ab,Ap,A7,Ad,Ae];refine Su (S':=fun w'=>(w'.cell? ⟨p3,1,none⟩=some (.int .i64 (at_:Int))∧w'.cell? ⟨g4,2,none⟩=some (.slice S7 q7 r7))∧w'.cell? ⟨g8,2,none⟩=some (.slice S11 q11 r11)) (fun w h=>h.1) _ _ _ _ ?_
          have hHeld:(w11.cell? ⟨p3,1,none⟩=some (.int .i64 (at_:Int))∧w11.cell? ⟨g4,2,none⟩=some (.slice S7 q7 r7))∧w11.cell? ⟨g8,2,none⟩=some (.slice S11 q11 r11):=⟨hHeld,k11⟩;refine wpAnyH_take (i:=25) (v:=(.slice S11 q11 r11)) rfl (by kernel_rfl) (by kernel_rfl) (by kernel_rfl) (fun _ _ _ h=>h) (Or.inl ⟨by rfl,by(intro w hSw;obtain⟨hs1,hs2⟩:=hSw;go_simp)⟩) hHeld ?_
          simp only[Ac,Aa,Ab,Ap,A7,Ad,Ae];have hx12:=An.alloc w11 (.cells #[.slice S7 q7 r7,.slice S11 q11 r11] 25);refine wpAnyH_ready (rs:=[26]) (by kernel_rfl) (by simp) ?_
          refine Ai rfl (fun K hK=>?_) Am
          go_simp
          refine hK.out _ _ ⟨⟨hx12.cell hHeld.1.1,hx12.cell hHeld.1.2⟩,hx12.cell hHeld.2⟩ (fun hHeld=>?_)
          clear hK K
          try simp only[Ac,Aa,Ab,Ap,A7,Ad,Ae]
          refine wpAnyH_take (i:=27) (v:=(.slice (some ⟨w11.heap.size,0,none⟩) 2 2)) rfl (by kernel_rfl) (by kernel_rfl) (by kernel_rfl) (fun _ _ _ h=>h) (Or.inl ⟨by rfl,by(intro w hSw;go_simp)⟩) hHeld ?_
          simp only[Ac,Aa,Ab,Ap,A7,Ad,Ae];refine wpAnyH_done (by kernel_rfl) ?_ _
          have hEa:An wa w11:=hWR.trans hEw11;have hL:Hid (Q2 (w11.alloc (.cells #[.slice S7 q7 r7,.slice S11 q11 r11] 25)) w.heap.size w11.heap.size [iX b st at_ p lo hi,tO b st at_ p lo hi]):=A6 (Q2.two (Aq.new w11 _ _) (Av.ext (Av.ext (Bd.lower ho7 (by have:=HSZ.out;omega)) hEw11) (An.alloc _ _)) (Av.ext (Bd.lower ho11 (by have:=HSZ.out;omega)) (An.alloc _ _)))
          rw[←hWY.out]at hL;have hO12:Hid (Av (w11.alloc (.cells #[.slice S7 q7 r7,.slice S11 q11 r11] 25)) w.heap.size S q r bst):=A6 (Av.ext hO6.out (hEa.trans hx12));have hX12:Hid (An W (w11.alloc (.cells #[.slice S7 q7 r7,.slice S11 q11 r11] 25))):=A6 (hxw11.to_alloc _);have hWL:Hid (2=(M5 b st at_ p lo hi).length):=A6 (by rw[hWY.out];rfl)
          clear hJw4 hEw4 hxw4 hJw5 hKw5 hxw5 hJw6 hKw6 hxw6 hJw7 hKw7 hxw7 k7 ho7 hWR hJw8 hEw8 hxw8 hJw9 hKw9 hxw9 hEw9 hJw10 hKw10 hxw10 hEw10 hJw11 hKw11 hxw11 hEw11 k11 ho11 hx12 hEa hHeld k31 k31d hWY;go_wp2_with fail
          go_meet
          exact⟨w11.heap.size,2,rfl,hWL.out,hL,hO12,hX12⟩
         |false=>
          have hlh:¬lo<hi:=by have:=HMO.out;simpa using this
          have hWY:M5 b st at_ p lo hi=[cS b st at_ p]:=by unfold M5;rw[if_neg hlh]
          rw[←hWY]at hL;have hWL:Hid (1=(M5 b st at_ p lo hi).length):=A6 (by rw[hWY];rfl)
          clear hWY hlh;go_wp2_with fail
          go_meet
          exact⟨gL,1,rfl,hWL.out,hL,hO6,hX6⟩
        case rest=>
         obtain⟨gL,kL,rfl,hkL,hL,hO,hX⟩:=hcut
         rename World=>wb
         clear hO6 hX6;have HKL:=A6 hkL;clear hkL;have hkb:kL≤2:=by rw[HKL.out];unfold M5;split<;>simp
         have hall:=Bb HKL (Bb hL HS4);clear HKL hL HS4
         revert hall
         generalize M5 b st at_ p lo hi=ws;rintro⟨HKL,hL,HS4⟩;go_wp2_with fail
         go_loopw [13,160] (fun s13 s160 wr=>∃(i q r:Nat) (S:Option Addr),i≤kL∧s160=.int .i64 i∧s13=.slice S q r∧Hid (Av wb w.heap.size S q r (G3 bst (ws.take i)))∧wb=wr) (fun _ s160 _=>kL-(intOf s160).toNat)
         case atStart=>exact⟨0,q,r,S,by omega,rfl,rfl,hO,rfl⟩
         case round=>
          clear hO;obtain⟨i,q,r,S,hik,rfl,rfl,HOi,rfl⟩:=hrel;by_cases hlt:i<kL
          ·obtain⟨Si,qi,ri,ci,oi⟩:=hL.out i (by rw[←HKL.out];exact hlt)
           have HQI:Hid ((ws[i]?.getD []).length=qi):=A6 (Av.ints oi).len;have HQ:Hid ((G3 bst (ws.take i)).length=q):=A6 (Av.ints HOi.out).len;have HB1:Hid (G3 bst (ws.take (i+1))=J8 (G3 bst (ws.take i)) (ws[i]?.getD [])):=A6 (by rw[dR (by rw[←HKL.out];exact hlt),cK])
           have OI:=A6 oi;clear oi;by_cases hc:qi<q
           ·have hcd:decide (qi<q)=true:=by simpa using hc
            have hcd2:decide ((qi:Int)<(q:Int))=true:=by simp;omega
            have HN:Hid (Av wb w.heap.size Si qi ri (G3 bst (ws.take (i+1)))):=A6 (by
             rw[HB1.out];unfold J8;rw[if_pos (by rw[HQI.out,HQ.out];exact hc)]
             exact OI.out)
            clear hc HOi HQI HQ HB1 OI;go_wp2_with fail
            go_roundw
            case rel=>exact⟨i+1,qi,ri,Si,by omega,by go_num,rfl,HN,trivial⟩
            case measure=>simp[intOf];omega
           ·have hcd:decide (qi<q)=false:=by simpa using hc
            have hcd2:decide ((qi:Int)<(q:Int))=false:=by simp;omega
            have HN:Hid (Av wb w.heap.size S q r (G3 bst (ws.take (i+1)))):=A6 (by
             rw[HB1.out];unfold J8;rw[if_neg (by rw[HQI.out,HQ.out];exact hc)]
             exact HOi.out)
            clear hc HOi HQI HQ HB1 OI;go_wp2_with fail
            go_roundw
            case rel=>exact⟨i+1,q,r,S,by omega,by go_num,rfl,HN,trivial⟩
            case measure=>simp[intOf];omega
          ·obtain rfl:i=kL:=by omega
           have HN:Hid (Av wb w.heap.size S q r (G3 bst ws)):=A6 (by
            have:=HOi.out;rw[List.take_of_length_le (by rw[←HKL.out];exact Aj _)]at this
            exact this)
           clear HOi;go_wp2_with fail
           go_roundw
           case rel=>exact⟨p+1,q,r,S,G3 bst ws,by omega,by omega,by go_num,rfl,HN,HS4,hX⟩
           case measure=>simp[intOf];omega
      ·obtain rfl:p=fi+1:=by omega
       have HF:Hid (gJ w (Eh a st b at_) (.returned (.tuple #[.slice S q r,.int .i64 0])) wr):=A6 ⟨S,q,r,rfl,by rw[HS3.out,Nat.sub_self];exact HO.out,HX.out.trans HXr.out⟩
       clear HS3 HO;go_wp2_with fail
       go_ret2
       exact HF.out
    ·have t2:decide (fi<fh)=false:=by simpa using htl
     have HF:Hid (gJ w (Eh a st b at_) (.returned (.tuple #[.slice S q r,.int .i64 0])) w9):=A6 ⟨S,q,r,rfl,by rw[HS2.out,if_neg htl];exact HO9.out,HX.out.trans HX9.out⟩
     clear HS2;go_wp2_with fail
     go_ret2
     exact HF.out
 ·have t1:decide (x<y)=false:=by simpa using hxy
  have HS2:Hid (Eh a st b at_=(J5 b (st,[]) at_).2):=A6 (by rw[HS.out,if_neg hxy])
  clear HS hxy;have hxd:=hx3.to_drew;have k31:=S5.out w3 hx3;have k31d:=S5.out _ hxd;go_wp2_with fail
  go_region_law (first
   |(
    refine L7 rfl 102 #[.pointer (some ⟨p3,0,none⟩),.pointer (some ⟨p2,0,none⟩)] 56 rfl (by kernel_rfl) (fun v w'=>∃g,v=.pointer (some ⟨g,0,none⟩)∧W.heap.size≤g∧No w' g B n d (st,[])∧An W w') ((HBE.out hxd).mono fun e w' ⟨g,h1,h2,h3,h4,h5⟩=>⟨_,h1,g,rfl,h2,h4,hxd.trans h5⟩) ?_
    rintro v w4 ⟨g,rfl,hg,hJ4,hx4⟩;have k31:=S5.out w4 hx4)
   |(
    refine By rfl 104 #[.pointer (some ⟨g,0,none⟩),.int .i64 (at_:Int)] rfl (by kernel_rfl) (fun v w'=>v=.pointer (some ⟨g,0,none⟩)∧No w' g B n d (J5 b (st,[]) at_)∧An W w') ((HTO.out hJ4 hx4 hg hst (Aw _)).mono fun e w' ⟨h1,h2,h3⟩=>⟨_,h1,rfl,h2,h3 W hx4 hg⟩) ?_
    rintro v w5 ⟨rfl,hJ5,hx5⟩;obtain⟨S,q,r,k5,ho5⟩:=hJ5.own))
  all_goals
   have HF:Hid (gJ w (Eh a st b at_) (.returned (.tuple #[.slice S q r,.int .i64 0])) w5):=A6 ⟨S,q,r,rfl,by rw[HS2.out];exact Bd.lower ho5 (by have:=HSZ.out;omega),HX.out.trans hx5⟩
   clear hJ5 k5 ho5 hJ4 hx4 k31;go_simp
   go_wp2_with fail
   go_ret2
   exact HF.out
end
