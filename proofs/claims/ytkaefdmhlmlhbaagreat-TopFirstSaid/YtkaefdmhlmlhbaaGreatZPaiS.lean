/-
  Part ZPaiS.
-/
import Derived.Test.YtkaefdmhlmlhbaaGreatZPaiW
import Derived.Test.YtkaefdmhlmlhbaaGreatZTermX
import Derived.Deep.RegionHeld3
set_option maxRecDepth 100000
set_option maxHeartbeats 16000000
set_option linter.unusedVariables false
set_option linter.unusedSimpArgs false
namespace Go.Proofs.YtkaefdmhlmlhbaaGreat
open Go.RowKit
open _root_.Go.Proofs.Tryz
open Region renaming wanted→Bu
open Act renaming put→Ao
open AllReadyH renaming cons→Ai,nil→Am
open _root_.And renaming intro→Au
open _root_.List renaming getElem_cons_succ→Ab,getElem_cons_zero→Aa,getElem_toArray→Ac,length_append→Be,setIfInBounds_toArray→A7,set_cons_succ→Ae,set_cons_zero→Ad
open _root_.Nat renaming le_refl→Aj,zero_le→B8
section
variable {w:World}{B:Option Addr}
theorem U5 {P:Program}{md:Region.Mode}{ops:Array Oper}{Q:Exit→Act→World→Prop}{S S':World→Prop}(hSS:∀w,S' w→S w):∀(fuel:Nat) (listed:Array Bool) (a:Act) (w:World),wpAnyH P md ops Q S' fuel listed a w→wpAnyH P md ops Q S fuel listed a w
 |0,_,_,_,h=>h
 |fuel+1,_,_,_,h=>⟨h.1,fun i hi=>wpOp_mono (fun a' w' h'=>⟨hSS _ h'.1,U5 hSS fuel _ a' w' h'.2⟩) (h.2 i hi)⟩
theorem M4 {P:Program}{ops:Array Oper}{o:Oper}{a:Act}{K:Act→World→Prop}{Q:Exit→Act→World→Prop}{E:Prop}{ars:Array Operand}{tys:Array TypeId}(dn:o.guard=none)
 (f:FuncId) (args:Array Value) (t:Tmp) (ho:o.op=.call { callee:=.value (.tmp t),args:=ars,argTypes:=tys }) (de:(execOp a.eval o).run P w=.ok (.enter f args) w) (R:Value→World→Prop)
 (hc:Calls P f args w fun e w'=>∃v,e=.returned v∧R v w') (h:∀v w',R v w'→K (a.put o.dst v) w'):if Bu o (yielded ops a.tmps)=true then Oper.wp P o a w K Q else E:=by
 have hw:Bu o (yielded ops a.tmps)=true:=by simp[Bu,dn]
 rw[if_pos hw];exact I17
theorem bR {p2 p3 m d st:Nat}(c3:w.cell? ⟨p3,0,none⟩=some (.slice B m d))(c2:w.cell? ⟨p2,1,none⟩=some (.int .i64 st)):
 Calls prog 102 #[.pointer (some ⟨p3,0,none⟩),.pointer (some ⟨p2,0,none⟩)] w fun e w'=>∃g,e=.returned (.pointer (some ⟨g,0,none⟩))∧w.heap.size≤g∧Pf w' g B m d (st,[])∧An w w':=by
 have hx:=A6 (An.alloc w (.cells #[.slice B m d,st,()] 178));have hb:=A6 (Aq.new w 178 #[.slice B m d,.int .i64 (st:Int),.slice none 0 0]);go_enter func102,ntmps102
 go_wp2_with fail
 go_ret
 exact⟨_,rfl,Nat.le_refl _,⟨none,0,0,hb.out,Ba.nil _ _⟩,hx.out⟩
def kF (w:World)(l:List Int)(e:Ending)(w':World):Prop:=∃S q r,e=.returned (.tuple #[.slice S q r,(0:Int)])∧Ba w' w.heap.size S q r l∧An w w'
theorem lT {g t:Nat}{u v:Value}(h:Aq w g t #[u,v]):w.cell? ⟨g,0,none⟩=some u∧w.cell? ⟨g,1,none⟩=some v:=⟨h.cell 0,h.cell 1⟩
def Qx (w:World)(base g:Nat)(ws:List (List Int)):Prop:=∀i,i<ws.length→∃S q r,w.cell? ⟨g,i,none⟩=some (.slice S q r)∧Ba w base S q r (ws[i]?.getD [])
theorem Qx.one {base g t q r:Nat}{S:Option Addr}{l:List Int}(h:Aq w g t #[.slice S q r])(ho:Ba w base S q r l):Qx w base g [l]:=fun i hi=>by
 obtain rfl:i=0:=by simp at hi;omega
 exact⟨S,q,r,h.cell 0,ho⟩
theorem Qx.two {base g t q r q' r':Nat}{S S':Option Addr}{l l':List Int}(h:Aq w g t #[.slice S q r,.slice S' q' r'])(ho:Ba w base S q r l)(o6:Ba w base S' q' r' l'):Qx w base g [l,l']:=fun i hi=>by
 have:i=0∨i=1:=by simp at hi;omega
 rcases this with rfl|rfl
 ·exact⟨S,q,r,h.cell 0,ho⟩
 ·exact⟨S',q',r',h.cell 1,o6⟩
theorem Pf.own {g m d:Nat}{j:Nat×List Int}(h:Pf w g B m d j):∃S q r,w.cell? ⟨g,2,none⟩=some (.slice S q r)∧Ba w (g+1) S q r j.2:=
 let ⟨S,q,r,h1,h2⟩:=h;⟨S,q,r,h1.cell 2,h2⟩
theorem fC (x:List Int)(ws:List (List Int))(v:List Int):Gj x (ws++[v])=Jr (Gj x ws) v:=by unfold Gj;rw[List.foldl_append];rfl
theorem gQ {ws:List (List Int)}{i:Nat}(h:i<ws.length):ws.take (i+1)=ws.take i++[ws[i]?.getD []]:=by
 rw[List.take_succ_eq_append_getElem h];simp[h]
theorem tE {A B:Option Addr}{n c m d st at_:Nat}{a b:List Int}(ha:Bj w A n c a)(hb:Bj w B m d b)(hB:B=none→d=0)(ga:Ug a n st)(gb:Ug b m at_)(ky:n=m):
 Calls prog 69 #[.agg #[.slice A n c,st],.agg #[.slice B m d,at_]] w (kF w (F0 a st b at_)):=by
 subst ky;have am:An w ((w.alloc (.cells #[.slice A n c,st] 41)).alloc (.cells #[.slice B n d,at_] 41)):=(An.alloc _ _).to_alloc _;have b2:=(Aq.new w 41 #[.slice A n c,.int .i64 st]).ext (An.alloc _ (.cells #[.slice B n d,at_] 41));have b3:=Aq.new (w.alloc (.cells #[.slice A n c,st] 41)) 41 #[.slice B n d,.int .i64 at_];rw[World.size_alloc]at b3;have HX:=A6 am;have HA:=A6 (ha.ext am);have HB:=A6 (hb.ext am);have aw:=ha.ncap;have aq:=ha.nmax;have dw:=hb.ncap;have wn:=hb.nmax;unfold maxLen at aq wn;have dk:=A6 hb.len;have KL:=A6 hB;have ep:=ga.1;have kw:=ga.2.1;have j8:st≤n:=by have:=ga.2.2.2.1;omega
 have gt:at_≤n:=by have:=gb.2.2.2.1;omega
 have G1:=A6 ga;have G2:=A6 gb;have vt:((n:Int) !=(n:Int))=false:=by simp
 obtain⟨S1,S2,S3,_,_⟩:=Lz a b (B8 n);have HS:Hid (F0 a st b at_=if Fk a b 0 n<Hm a b 0 n then(if Fk a b (Fn b n) n<Hm a b (Fn b n) n then P7 b st at_ (Fk a b 0 (Fn b n)) (Hm a b 0 (Fn b n)) (Fk a b (Fn b n) n+1-Fn b n) (Fn b n) (Jl b (Dw b (st,[]) (Fk a b 0 n) (Hm a b 0 n)) at_).2 else(Jl b (Dw b (st,[]) (Fk a b 0 n) (Hm a b 0 n)) at_).2)else(Jl b (st,[]) at_).2):=A6 (by
  unfold F0;rw[dk.out])
 have ax:=Au b2 (Au b3 (Au HX (Au HA HB)));clear am b2 b3 HX HA HB ha hb ga gb hB;go_enter func69,ntmps69
 go_upto_region 1 with fail
 revert ax
 generalize (w.alloc (.cells #[.slice A n c,st] 41)).alloc (.cells #[.slice B n d,at_] 41)=W;obtain⟨p2,mf⟩:∃p2,w.heap.size=p2:=⟨_,rfl⟩;obtain⟨p3,sb⟩:∃p3,w.heap.size+1=p3:=⟨_,rfl⟩;rw[sb,mf];have HP:=A6 (Au mf sb);clear mf sb;rintro⟨b2,b3,HX,HA,HB⟩;obtain⟨k20,k21⟩:=lT b2;obtain⟨k30,k31⟩:=lT b3;have K20:Hid (∀wq,An W wq→wq.cell? ⟨p2,0,none⟩=some (.slice A n c)):=A6 fun wq h=>h.cell k20
 have K21:Hid (∀wq,An W wq→wq.cell? ⟨p2,1,none⟩=some (.int .i64 st)):=A6 fun wq h=>h.cell k21
 have xV:Hid (∀wq,An W wq→wq.cell? ⟨p3,0,none⟩=some (.slice B n d)):=A6 fun wq h=>h.cell k30
 have Td:Hid (∀wq,An W wq→wq.cell? ⟨p3,1,none⟩=some (.int .i64 at_)):=A6 fun wq h=>h.cell k31
 have zu:Hid (w.heap.size≤W.heap.size):=A6 HX.out.hsize;have jt:=A6 (Ra HA.out G1.out.2.2.2.2 G1.out.1 G1.out.2.1 G1.out.2.2.1 G1.out.2.2.2.1);clear b2 b3;go_wp2_with fail
 refine jt.out.mono ?_
 rintro e w1 ⟨rfl,aj⟩;clear jt k20 k21 k30 k31;have k30:=xV.out w1 aj;have lu:=A6 (Ra (HB.out.ext aj) G2.out.2.2.2.2 G2.out.1 G2.out.2.1 G2.out.2.2.1 G2.out.2.2.2.1);have k31:=Td.out w1 aj;go_wp2_with fail
 refine lu.out.mono ?_
 rintro e w2 ⟨rfl,au⟩;have bt:=aj.trans au;clear lu aj au k30 k31;have k20:=K20.out w2 bt;have k30:=xV.out w2 bt;have HD:=A6 (bC (HA.out.ext bt) (HB.out.ext bt) (B8 n) (Aj n) (Aj n))
 revert S1 S2 S3 HS HD
 generalize Fk a b 0 n=x;generalize Hm a b 0 n=y;intro S1 S2 S3 HS HD;go_wp2_with fail
 refine HD.out.mono ?_
 rintro e w3 ⟨rfl,z,rfl⟩;have bg:=bt.to_drewN z;clear HD k20 k30 bt;generalize w2.drewN z=w3 at*;have Oi:Hid (∀{wq:World} {g:Nat} {j:Nat×List Int},Pf wq g B n d j→An W wq→W.heap.size≤g→j.1≤n→j.2.length≤900000→Calls prog 104 #[.pointer (some ⟨g,0,none⟩),.int .i64 at_] wq fun e w'=>e=.returned (.pointer (some ⟨g,0,none⟩))∧Pf w' g B n d (Jl b j at_)∧Dg wq w' g):=
  A6 fun h1 h2 h3 h4 h5=>J1x h1 HB.out KL.out h2 h3 kw h4 gt (by omega)
 have Oj:Hid (∀{wq:World},An W wq→Calls prog 102 #[.pointer (some ⟨p3,0,none⟩),.pointer (some ⟨p2,0,none⟩)] wq fun e w'=>∃g,e=.returned (.pointer (some ⟨g,0,none⟩))∧W.heap.size≤g∧wq.heap.size≤g∧Pf w' g B n d (st,[])∧An wq w'):=
  A6 fun h1=>(bR (xV.out _ h1) (K21.out _ h1)).mono fun e w' ⟨g,h2,h3,h4,h5⟩=>⟨g,h2,Nat.le_trans h1.hsize h3,h3,h4,h5⟩
 have FF:Hid (∀{wq:World} {g u v:Nat} {j:Nat×List Int},Pf wq g B n d j→An W wq→W.heap.size≤g→j.1≤n→u≤v→v≤n→j.2.length≤900000→Calls prog 105 #[.pointer (some ⟨g,0,none⟩),.int .i64 u,.int .i64 v] wq fun e w'=>e=.returned (.pointer (some ⟨g,0,none⟩))∧Pf w' g B n d (Dw b j u v)∧Dg wq w' g):=
  A6 fun h1 h2 h3 h4 h5 h6 h7=>uG h1 HB.out KL.out h2 h3 kw h4 h5 h6 h7
 have FD:Hid (∀{wq:World} {g u:Nat} {j:Nat×List Int},Pf wq g B n d j→An W wq→W.heap.size≤g→j.1≤n→u≤n→j.2.length≤900000→Calls prog 106 #[.pointer (some ⟨g,0,none⟩),.int .i64 u] wq fun e w'=>e=.returned (.pointer (some ⟨g,0,none⟩))∧Pf w' g B n d (Dt b j u)∧Dg wq w' g):=
  A6 fun h1 h2 h3 h4 h5 h6=>pH h1 HB.out KL.out h2 h3 kw h4 h5 h6
 have LT:∀(j:Nat×List Int) (k:Nat),j.1≤n→k≤n→(Jl b j k).2.length≤j.2.length+121:=fun j k h1 h2=>by
  have:=Tq (b:=b) (x:=j.1) (y:=k) (by omega) (by omega)
  show(j.2++Gn b j.1 k).length≤_
  rw[Be];omega
 have LOv:Hid (∀(j:Nat×List Int) (u v:Nat),j.1≤n→u≤v→v≤n→(Dw b j u v).2.length≤j.2.length+241):=A6 fun j u v h1 h2 h3=>by
  have:=LT j u h1 (by omega)
  show((Jl b j u).2++(b.drop u).take (v-u)).length≤_
  rw[Be,List.length_take];omega
 have LEr:Hid (∀(j:Nat×List Int) (u:Nat),j.1≤n→u≤n→(Dt b j u).2.length≤j.2.length+241):=A6 fun j u h1 h2=>by
  have:=LT j u h1 h2
  show((Jl b j u).2++[11]).length≤_
  rw[Be];simp;omega
 clear LT;by_cases fl:x<y
 ·have t1:decide (x<y)=true:=by simpa using fl
  have we:Hid (F0 a st b at_=if Fk a b (Fn b n) n<Hm a b (Fn b n) n then P7 b st at_ (Fk a b 0 (Fn b n)) (Hm a b 0 (Fn b n)) (Fk a b (Fn b n) n+1-Fn b n) (Fn b n) (Jl b (Dw b (st,[]) x y) at_).2 else(Jl b (Dw b (st,[]) x y) at_).2):=A6 (by rw[HS.out,if_pos fl])
  have gq:=LOv.out (st,[]) x y j8 S2 S3;have gq:(Dw b (st,[]) x y).2.length≤900000:=by simp only[List.length_nil]at gq;omega
  have XE:(Dw b (st,[]) x y).1≤n:=S3;clear HS fl;have tg:=bg.to_drew;have k31:=Td.out w3 bg;have k31d:=Td.out _ tg;go_upto_region 14 with fail
  go_cut [13] (fun s13 wx=>∃S q r,s13=.slice S q r∧Hid (Ba wx w.heap.size S q r (Jl b (Dw b (st,[]) x y) at_).2)∧Hid (An W wx))
  case first=>
   go_region_law (first
    |(
     refine M4 rfl 102 #[.pointer (some ⟨p3,0,none⟩),.pointer (some ⟨p2,0,none⟩)] 64 rfl (by kernel_rfl) (fun v w'=>∃g,v=.pointer (some ⟨g,0,none⟩)∧W.heap.size≤g∧w3.drew.heap.size≤g∧Pf w' g B n d (st,[])∧An w3.drew w'∧An W w') ((Oj.out tg).mono fun e w' ⟨g,h1,h2,h3,h4,h5⟩=>⟨_,h1,g,rfl,h2,h3,h4,h5,tg.trans h5⟩) ?_
     rintro v w4 ⟨g4,rfl,jj,ro,o8,ur,iz⟩;have k31:=Td.out w4 iz)
    |(
     refine C8 rfl 105 #[.pointer (some ⟨g4,0,none⟩),.int .i64 (x:Int),.int .i64 (y:Int)] rfl (by kernel_rfl) (fun v w'=>v=.pointer (some ⟨g4,0,none⟩)∧Pf w' g4 B n d (Dw b (st,[]) x y)∧Dg w4 w' g4∧An W w') ((FF.out o8 iz jj j8 S2 S3 (B8 _)).mono fun e w' ⟨h1,h2,h3⟩=>⟨_,h1,rfl,h2,h3,h3 W iz jj⟩) ?_
     rintro v w5 ⟨rfl,pb,ut,i7⟩;have k31:=Td.out w5 i7)
    |(
     refine C8 rfl 104 #[.pointer (some ⟨g4,0,none⟩),.int .i64 (at_:Int)] rfl (by kernel_rfl) (fun v w'=>v=.pointer (some ⟨g4,0,none⟩)∧Pf w' g4 B n d (Jl b (Dw b (st,[]) x y) at_)∧Dg w5 w' g4∧An W w') ((Oi.out pb i7 jj XE gq).mono fun e w' ⟨h1,h2,h3⟩=>⟨_,h1,rfl,h2,h3,h3 W i7 jj⟩) ?_
     rintro v w6 ⟨rfl,pe,uu,j5⟩;have k31:=Td.out w6 j5;obtain⟨S,q,r,k6,DP⟩:=pe.own))
   all_goals
    have io:Hid (Ba w6 w.heap.size S q r (Jl b (Dw b (st,[]) x y) at_).2):=A6 (Bd.lower DP (by have:=zu.out;omega))
    have dv:=A6 j5;clear pe k6 DP o8 iz pb i7 j5 k31 XE gq;go_wp2_with fail
    go_meet
    exact⟨S,q,r,rfl,io,dv⟩
  case rest=>
   obtain⟨S,q,r,rfl,HO,dv⟩:=hcut;clear k31 k31d tg bg gq XE;generalize Ol:(Jl b (Dw b (st,[]) x y) at_).2=best at*;clear Ol
   rename World=>w7
   have k30:=xV.out w7 dv.out;go_upto_block 0 with fail
   go_cut [14] (fun s14 wx=>s14=.int .i64 (Fn b n:Int)∧w7=wx)
   case first=>
    have VS:=A6 (HB.out.ext dv.out);go_wp2_with fail
    go_loopw [14] (fun v wr=>∃k:Nat,k≤n∧v=.int .i64 k∧Hid (Fn b n=Fn b k)∧w7=wr) (fun v _=>(intOf v).toNat)
    case atStart=>exact⟨n,Aj _,rfl,A6 rfl,rfl⟩
    case round=>
     obtain⟨k,hk,rfl,HF,rfl⟩:=hrel;rcases Nat.eq_zero_or_pos k with h0|h0
     ·subst h0
      have fu:Hid ((Fn b n:Int)=0):=A6 (by rw[HF.out];rfl)
      clear HF;go_wp2_with fail
      go_meet
      exact⟨by rw[fu.out];rfl,rfl⟩
     ·obtain⟨k',rfl⟩:∃k',k=k'+1:=⟨k-1,by omega⟩
      obtain⟨a1,e1,bh⟩:=VS.out.at_ (k:=k') (by omega)
      have c1:=bh k' (by omega)
      have e2:((k'+1:Nat):Int)-1=(k':Int):=by omega
      have hk'n:k'<n:=by omega
      subst e1;by_cases hq:gI b k'=32
      ·have fu:Hid (Fn b n=Fn b k'):=A6 (by rw[HF.out];simp[Fn,hq])
       rw[hq]at c1;clear HF bh hq;go_wp2_with fail
       go_roundw
       case rel=>exact⟨k',by omega,by first|rfl|(congr 1;omega),fu,trivial⟩
       case measure=>simp[intOf]
      ·have fu:Hid (Fn b n=k'+1):=A6 (by rw[HF.out];simp[Fn,hq])
       have b1:(gI b k'==32)=false:=by simpa using hq
       clear HF bh hq;go_wp2_with fail
       go_meet
       exact⟨by rw[fu.out],rfl⟩
   case rest=>
    obtain⟨rfl,rfl⟩:=hcut;have rp:=(Su b n).1;obtain⟨M1,M2,M3,_,_⟩:=Lz a b (B8 (Fn b n));obtain⟨T1,T2,T3,_,_⟩:=Lz a b rp;have ax:=Au rp (Au M1 (Au M2 (Au M3 (Au T1 (Au T2 (Au T3 we))))));clear rp M1 M2 M3 T1 T2 T3 we
    revert ax
    generalize Fn b n=full;rintro⟨rp,M1,M2,M3,T1,T2,T3,we⟩;have k20:=K20.out w7 dv.out;have k30:=xV.out w7 dv.out;have oa:=A6 (bC (HA.out.ext dv.out) (HB.out.ext dv.out) (B8 full) rp rp);have ms:Hid (∀z,Calls prog 103 #[.slice A n c,.slice B n d,.int .i64 full,.int .i64 n] (w7.drewN z) (J2i (w7.drewN z) (Fk a b full n) (Hm a b full n))):=A6 fun z=>bC (HA.out.ext (dv.out.to_drewN z)) (HB.out.ext (dv.out.to_drewN z)) rp (Aj n) (Aj n)
    have ax:=Au oa (Au ms (Au we (Au M1 (Au M2 (Au M3 (Au T1 (Au T2 T3)))))));clear oa ms we M1 M2 M3 T1 T2 T3
    revert ax
    generalize Fk a b 0 full=lo;generalize Hm a b 0 full=hi;generalize Fk a b full n=fi;generalize Hm a b full n=fh;rintro⟨oa,ms,we,M1,M2,M3,T1,T2,T3⟩;go_wp2_with fail
    refine oa.out.mono ?_
    rintro e w8 ⟨rfl,z1,rfl⟩;obtain⟨mo,ud⟩:∃mo,decide (lo<hi)=mo:=⟨_,rfl⟩;rw[ud];have HMO:=A6 ud;clear ud;have SR:=A6 (ms.out z1);have vy:=A6 (dv.out.to_drewN z1);have SS:=A6 (Ba.ext HO.out (An.drewN w7 z1));clear oa ms k20 k30 dv HO
    revert SR vy SS
    generalize w7.drewN z1=w8;intro SR vy SS;have k20:=K20.out w8 vy.out;have k30:=xV.out w8 vy.out;go_wp2_with fail
    refine SR.out.mono ?_
    rintro e w9 ⟨rfl,z2,rfl⟩;have nj:=A6 (vy.out.to_drewN z2);have Om:=A6 (Ba.ext SS.out (An.drewN w8 z2));clear SR k20 k30 vy SS
    revert nj Om
    generalize w8.drewN z2=w9;intro nj Om;by_cases qv:fi<fh
    ·have t2:decide (fi<fh)=true:=by simpa using qv
     have Ic:Hid (F0 a st b at_=P7 b st at_ lo hi (fi+1-full) full best):=A6 (by rw[we.out,if_pos qv])
     clear we;go_wp2_with fail
     go_loopw [13,21] (fun s13 s21 wr=>∃(p q r:Nat) (S:Option Addr) (bst:List Int),full≤p∧p≤fi+1∧s21=.int .i64 p∧s13=.slice S q r∧Hid (Ba wr w.heap.size S q r bst)∧Hid (F0 a st b at_=P7 b st at_ lo hi (fi+1-p) p bst)∧Hid (An W wr)) (fun _ s21 _=>fi+1-(intOf s21).toNat)
     case atStart=>exact⟨full,q,r,S,best,Aj _,by omega,rfl,rfl,Om,Ic,nj⟩
     case round=>
      clear Om Ic nj;obtain⟨p,q,r,S,bst,KN,mf,rfl,rfl,HO,Ic,zy⟩:=hrel;by_cases ae:p≤fi
      ·have od:p≤n:=by omega
       have AO:Hid (F0 a st b at_=P7 b st at_ lo hi (fi+1-(p+1)) (p+1) (Gj bst (Mv b st at_ p lo hi))):=A6 (by
        rw[Ic.out];obtain⟨f,hf⟩:∃f,fi+1-p=f+1:=⟨fi-p,by omega⟩
        rw[hf,show fi+1-(p+1)=f by omega]
        rfl)
       have DU:=LEr.out (st,[]) p j8 od;have DU:(Dt b (st,[]) p).2.length≤900000:=by simp only[List.length_nil]at DU;omega
       have vw:(Dt b (st,[]) p).1≤n:=od;have ti:=zy.out.to_drew;have k31:=Td.out wr zy.out;have k31d:=Td.out _ ti;clear Ic;go_upto_region 25 with fail
       go_cut [22] (fun s22 wx=>∃gL,s22=.slice (some ⟨gL,0,none⟩) 1 1∧Hid (Qx wx w.heap.size gL [fJ b st at_ p])∧Hid (Ba wx w.heap.size S q r bst)∧Hid (An W wx))
       case first=>
        go_region_law (first
         |(
          refine M4 rfl 102 #[.pointer (some ⟨p3,0,none⟩),.pointer (some ⟨p2,0,none⟩)] 119 rfl (by kernel_rfl) (fun v w'=>∃g,v=.pointer (some ⟨g,0,none⟩)∧W.heap.size≤g∧wr.drew.heap.size≤g∧Pf w' g B n d (st,[])∧An wr.drew w'∧An W w') ((Oj.out ti).mono fun e w' ⟨g,h1,h2,h3,h4,h5⟩=>⟨_,h1,g,rfl,h2,h3,h4,h5,ti.trans h5⟩) ?_
          rintro v w4 ⟨g4,rfl,jj,ro,o8,ur,iz⟩;have k31:=Td.out w4 iz)
         |(
          refine C8 rfl 106 #[.pointer (some ⟨g4,0,none⟩),.int .i64 (p:Int)] rfl (by kernel_rfl) (fun v w'=>v=.pointer (some ⟨g4,0,none⟩)∧Pf w' g4 B n d (Dt b (st,[]) p)∧Dg w4 w' g4∧An W w') ((FD.out o8 iz jj j8 od (B8 _)).mono fun e w' ⟨h1,h2,h3⟩=>⟨_,h1,rfl,h2,h3,h3 W iz jj⟩) ?_
          rintro v w5 ⟨rfl,pb,ut,i7⟩;have k31:=Td.out w5 i7)
         |(
          refine C8 rfl 104 #[.pointer (some ⟨g4,0,none⟩),.int .i64 (at_:Int)] rfl (by kernel_rfl) (fun v w'=>v=.pointer (some ⟨g4,0,none⟩)∧Pf w' g4 B n d (Jl b (Dt b (st,[]) p) at_)∧Dg w5 w' g4∧An W w') ((Oi.out pb i7 jj vw DU).mono fun e w' ⟨h1,h2,h3⟩=>⟨_,h1,rfl,h2,h3,h3 W i7 jj⟩) ?_
          rintro v w6 ⟨rfl,pe,uu,j5⟩;have k31:=Td.out w6 j5;obtain⟨S6,q6,r6,k6,DP⟩:=pe.own;have On:An wr w6:=(An.drew wr).trans (uu _ (ut _ ur ro) ro)))
        all_goals
         have hL:Hid (Qx (w6.alloc (.cells #[.slice S6 q6 r6] 25)) w.heap.size w6.heap.size [fJ b st at_ p]):=A6 (Qx.one (Aq.new w6 _ _) (Ba.ext (Bd.lower DP (by have:=zu.out;omega)) (An.alloc _ _)))
         have rj:Hid (Ba (w6.alloc (.cells #[.slice S6 q6 r6] 25)) w.heap.size S q r bst):=A6 (Ba.ext HO.out (On.to_alloc _));have DV:Hid (An W (w6.alloc (.cells #[.slice S6 q6 r6] 25))):=A6 (j5.to_alloc _);clear o8 ur iz pb ut i7 pe uu j5 k6 DP On k31;go_wp2_with fail
         go_meet
         exact⟨w6,rfl,hL,rj,DV⟩
       case rest=>
        obtain⟨gL,rfl,hL,rj,DV⟩:=hcut
        rename World=>wa
        clear HO zy k31 k31d ti;go_upto_if 130 with fail
        go_cut [22] (fun s22 wx=>∃gL k,s22=.slice (some ⟨gL,0,none⟩) k k∧k=(Mv b st at_ p lo hi).length∧Hid (Qx wx w.heap.size gL (Mv b st at_ p lo hi))∧Hid (Ba wx w.heap.size S q r bst)∧Hid (An W wx))
        case first=>
         cases mo with
         |true=>
          have te:lo<hi:=by have:=HMO.out;simpa using this
          have Id:Hid (Mv b st at_ p lo hi=[lX b st at_ p lo hi,xX b st at_ p lo hi]):=A6 (by unfold Mv;rw[if_pos te])
          have xy:=DV.out.to_drew;have k31:=Td.out wa DV.out;have k31d:=Td.out _ xy;have JZ:hi≤n:=by omega
          have aj:=LOv.out (st,[]) lo hi j8 M2 JZ;have aj:(Dw b (st,[]) lo hi).2.length≤241:=by simp only[List.length_nil]at aj;omega
          have bu:(Dw b (st,[]) lo hi).1≤n:=JZ;have au:=LEr.out (Dw b (st,[]) lo hi) p bu od;have au:(Dt b (Dw b (st,[]) lo hi) p).2.length≤900000:=by omega
          have bf:(Dt b (Dw b (st,[]) lo hi) p).1≤n:=od;have XF:(Dw b (st,[]) lo hi).2.length≤900000:=by omega
          have cu:=LOv.out (Dt b (st,[]) p) lo hi vw M2 JZ;have he0:=LEr.out (st,[]) p j8 od;have cu:(Dw b (Dt b (st,[]) p) lo hi).2.length≤900000:=by simp only[List.length_nil]at he0;omega
          have jq:(Dw b (Dt b (st,[]) p) lo hi).1≤n:=JZ;clear te he0;go_wp2_with fail
          refine wp_region_held_drew (S:=fun w'=>w'.cell? ⟨p3,1,none⟩=some (.int .i64 (at_:Int))) (by kernel_rfl) k31d (fun aa=>?_)
          refine wpAnyH_take (i:=0) (v:=(.func (.func 102) #[] #[some p3,some p2])) rfl (by kernel_rfl) (by kernel_rfl) (by kernel_rfl) (fun _ _ _ h=>h) (Or.inl ⟨by rfl,by(intro w ag;go_simp)⟩) aa ?_
          simp only[Ac,Aa,Ab,Ao,A7,Ad,Ae];refine wpAnyH_take (i:=2) (v:=(.int .i64 (lo:Int))) rfl (by kernel_rfl) (by kernel_rfl) (by kernel_rfl) (fun _ _ _ h=>h) (Or.inl ⟨by rfl,by(intro w ag;go_simp)⟩) aa ?_
          simp only[Ac,Aa,Ab,Ao,A7,Ad,Ae];refine wpAnyH_take (i:=3) (v:=(.int .i64 (hi:Int))) rfl (by kernel_rfl) (by kernel_rfl) (by kernel_rfl) (fun _ _ _ h=>h) (Or.inl ⟨by rfl,by(intro w ag;go_simp)⟩) aa ?_
          simp only[Ac,Aa,Ab,Ao,A7,Ad,Ae];refine wpAnyH_take (i:=5) (v:=(.int .i64 (p:Int))) rfl (by kernel_rfl) (by kernel_rfl) (by kernel_rfl) (fun _ _ _ h=>h) (Or.inl ⟨by rfl,by(intro w ag;go_simp)⟩) aa ?_
          simp only[Ac,Aa,Ab,Ao,A7,Ad,Ae];refine wpAnyH_take (i:=7) (v:=(.pointer (some ⟨p3,1,none⟩))) rfl (by kernel_rfl) (by kernel_rfl) (by kernel_rfl) (fun _ _ _ h=>h) (Or.inl ⟨by rfl,by(intro w ag;go_simp)⟩) aa ?_
          simp only[Ac,Aa,Ab,Ao,A7,Ad,Ae];refine wpAnyH_take (i:=8) (v:=(.int .i64 (at_:Int))) rfl (by kernel_rfl) (by kernel_rfl) (by kernel_rfl) (fun _ _ _ h=>h) (Or.inl ⟨by rfl,by(intro w ag;go_simp)⟩) aa ?_
          simp only[Ac,Aa,Ab,Ao,A7,Ad,Ae];refine wpAnyH_take (i:=13) (v:=(.func (.func 102) #[] #[some p3,some p2])) rfl (by kernel_rfl) (by kernel_rfl) (by kernel_rfl) (fun _ _ _ h=>h) (Or.inl ⟨by rfl,by(intro w ag;go_simp)⟩) aa ?_
          simp only[Ac,Aa,Ab,Ao,A7,Ad,Ae];refine wpAnyH_take (i:=15) (v:=(.int .i64 (p:Int))) rfl (by kernel_rfl) (by kernel_rfl) (by kernel_rfl) (fun _ _ _ h=>h) (Or.inl ⟨by rfl,by(intro w ag;go_simp)⟩) aa ?_
          simp only[Ac,Aa,Ab,Ao,A7,Ad,Ae];refine wpAnyH_take (i:=17) (v:=(.int .i64 (lo:Int))) rfl (by kernel_rfl) (by kernel_rfl) (by kernel_rfl) (fun _ _ _ h=>h) (Or.inl ⟨by rfl,by(intro w ag;go_simp)⟩) aa ?_
          simp only[Ac,Aa,Ab,Ao,A7,Ad,Ae];refine wpAnyH_take (i:=18) (v:=(.int .i64 (hi:Int))) rfl (by kernel_rfl) (by kernel_rfl) (by kernel_rfl) (fun _ _ _ h=>h) (Or.inl ⟨by rfl,by(intro w ag;go_simp)⟩) aa ?_
          simp only[Ac,Aa,Ab,Ao,A7,Ad,Ae];refine wpAnyH_take (i:=20) (v:=(.pointer (some ⟨p3,1,none⟩))) rfl (by kernel_rfl) (by kernel_rfl) (by kernel_rfl) (fun _ _ _ h=>h) (Or.inl ⟨by rfl,by(intro w ag;go_simp)⟩) aa ?_
          simp only[Ac,Aa,Ab,Ao,A7,Ad,Ae];refine wpAnyH_take (i:=21) (v:=(.int .i64 (at_:Int))) rfl (by kernel_rfl) (by kernel_rfl) (by kernel_rfl) (fun _ _ _ h=>h) (Or.inl ⟨by rfl,by(intro w ag;go_simp)⟩) aa ?_
          simp only[Ac,Aa,Ab,Ao,A7,Ad,Ae];refine wpAnyH_ready (rs:=[1]) (by kernel_rfl) (by simp) ?_
          refine Ai rfl (fun K hK=>?_) Am
          refine M4 rfl 102 #[.pointer (some ⟨p3,0,none⟩),.pointer (some ⟨p2,0,none⟩)] 131 rfl (by kernel_rfl) (fun v w'=>∃g,v=.pointer (some ⟨g,0,none⟩)∧W.heap.size≤g∧wa.drew.heap.size≤g∧Pf w' g B n d (st,[])∧An wa.drew w'∧An W w') ((Oj.out xy).mono fun e w' ⟨g,h1,h2,h3,h4,h5⟩=>⟨_,h1,g,rfl,h2,h3,h4,h5,xy.trans h5⟩) ?_
          rintro v w4 ⟨g4,rfl,jj,ro,o8,ur,iz⟩;refine hK.out _ _ (Td.out _ iz) (fun aa=>?_)
          clear hK K;simp only[Ac,Aa,Ab,Ao,A7,Ad,Ae];refine wpAnyH_ready (rs:=[4]) (by kernel_rfl) (by simp) ?_
          refine Ai rfl (fun K hK=>?_) Am
          refine C8 rfl 105 #[.pointer (some ⟨g4,0,none⟩),.int .i64 (lo:Int),.int .i64 (hi:Int)] rfl (by kernel_rfl) (fun v w'=>v=.pointer (some ⟨g4,0,none⟩)∧Pf w' g4 B n d (Dw b (st,[]) lo hi)∧Dg w4 w' g4∧An W w') ((FF.out o8 iz jj j8 M2 JZ (B8 _)).mono fun e w' ⟨h1,h2,h3⟩=>⟨_,h1,rfl,h2,h3,h3 W iz jj⟩) ?_
          rintro v w5 ⟨rfl,pb,ut,i7⟩;refine hK.out _ _ (Td.out _ i7) (fun aa=>?_)
          clear hK K;simp only[Ac,Aa,Ab,Ao,A7,Ad,Ae];refine wpAnyH_ready (rs:=[6]) (by kernel_rfl) (by simp) ?_
          refine Ai rfl (fun K hK=>?_) Am
          refine C8 rfl 106 #[.pointer (some ⟨g4,0,none⟩),.int .i64 (p:Int)] rfl (by kernel_rfl) (fun v w'=>v=.pointer (some ⟨g4,0,none⟩)∧Pf w' g4 B n d (Dt b (Dw b (st,[]) lo hi) p)∧Dg w5 w' g4∧An W w') ((FD.out pb i7 jj bu od XF).mono fun e w' ⟨h1,h2,h3⟩=>⟨_,h1,rfl,h2,h3,h3 W i7 jj⟩) ?_
          rintro v w6 ⟨rfl,pe,uu,j5⟩;refine hK.out _ _ (Td.out _ j5) (fun aa=>?_)
          clear hK K;simp only[Ac,Aa,Ab,Ao,A7,Ad,Ae];refine wpAnyH_ready (rs:=[9]) (by kernel_rfl) (by simp) ?_
          refine Ai rfl (fun K hK=>?_) Am
          refine C8 rfl 104 #[.pointer (some ⟨g4,0,none⟩),.int .i64 (at_:Int)] rfl (by kernel_rfl) (fun v w'=>v=.pointer (some ⟨g4,0,none⟩)∧Pf w' g4 B n d (Jl b (Dt b (Dw b (st,[]) lo hi) p) at_)∧Dg w6 w' g4∧An W w') ((Oi.out pe j5 jj bf au).mono fun e w' ⟨h1,h2,h3⟩=>⟨_,h1,rfl,h2,h3,h3 W j5 jj⟩) ?_
          rintro v w7 ⟨rfl,Oo,Op,BQ⟩;obtain⟨S7,q7,r7,k7,ho7⟩:=Oo.own;have On:An wa w7:=(An.drew wa).trans (Op _ (uu _ (ut _ ur ro) ro) ro);refine hK.out _ _ (Td.out _ BQ) (fun aa=>?_)
          clear hK K;simp only[Ac,Aa,Ab,Ao,A7,Ad,Ae];refine wpAnyH_take (i:=10) (v:=some g4) rfl (by kernel_rfl) (by kernel_rfl) (by kernel_rfl) (fun _ _ _ h=>h) (Or.inl ⟨by rfl,by(intro w ag;go_simp)⟩) aa ?_
          simp only[Ac,Aa,Ab,Ao,A7,Ad,Ae];refine wpAnyH_take (i:=11) (v:=(.pointer (some ⟨g4,2,none⟩))) rfl (by kernel_rfl) (by kernel_rfl) (by kernel_rfl) (fun _ _ _ h=>h) (Or.inl ⟨by rfl,by(intro w ag;go_simp)⟩) aa ?_
          simp only[Ac,Aa,Ab,Ao,A7,Ad,Ae];refine U5 (S':=fun w'=>w'.cell? ⟨p3,1,none⟩=some (.int .i64 (at_:Int))∧w'.cell? ⟨g4,2,none⟩=some (.slice S7 q7 r7)) (fun w h=>h.1) _ _ _ _ ?_
          have aa:w7.cell? ⟨p3,1,none⟩=some (.int .i64 (at_:Int))∧w7.cell? ⟨g4,2,none⟩=some (.slice S7 q7 r7):=⟨aa,k7⟩;refine wpAnyH_take (i:=12) (v:=(.slice S7 q7 r7)) rfl (by kernel_rfl) (by kernel_rfl) (by kernel_rfl) (fun _ _ _ h=>h) (Or.inl ⟨by rfl,by(intro w ag;obtain⟨jo,CR⟩:=ag;go_simp)⟩) aa ?_
          simp only[Ac,Aa,Ab,Ao,A7,Ad,Ae];refine wpAnyH_ready (rs:=[14]) (by kernel_rfl) (by simp) ?_
          refine Ai rfl (fun K hK=>?_) Am
          refine M4 rfl 102 #[.pointer (some ⟨p3,0,none⟩),.pointer (some ⟨p2,0,none⟩)] 144 rfl (by kernel_rfl) (fun v w'=>∃g,v=.pointer (some ⟨g,0,none⟩)∧W.heap.size≤g∧w7.heap.size≤g∧Pf w' g B n d (st,[])∧An w7 w'∧An W w') ((Oj.out BQ).mono fun e w' ⟨g,h1,h2,h3,h4,h5⟩=>⟨_,h1,g,rfl,h2,h3,h4,h5,BQ.trans h5⟩) ?_
          rintro v w8 ⟨g8,rfl,DW,Ie,Oq,If,BR⟩;refine hK.out _ _ ⟨Td.out _ BR,If.cell k7⟩ (fun aa=>?_)
          clear hK K;simp only[Ac,Aa,Ab,Ao,A7,Ad,Ae];refine wpAnyH_ready (rs:=[16]) (by kernel_rfl) (by simp) ?_
          refine Ai rfl (fun K hK=>?_) Am
          refine C8 rfl 106 #[.pointer (some ⟨g8,0,none⟩),.int .i64 (p:Int)] rfl (by kernel_rfl) (fun v w'=>v=.pointer (some ⟨g8,0,none⟩)∧Pf w' g8 B n d (Dt b (st,[]) p)∧Dg w8 w' g8∧An W w') ((FD.out Oq BR DW j8 od (B8 _)).mono fun e w' ⟨h1,h2,h3⟩=>⟨_,h1,rfl,h2,h3,h3 W BR DW⟩) ?_
          rintro v w9 ⟨rfl,Ot,Ou,BS⟩;have Ig:=Ou _ If Ie;refine hK.out _ _ ⟨Td.out _ BS,Ig.cell k7⟩ (fun aa=>?_)
          clear hK K;simp only[Ac,Aa,Ab,Ao,A7,Ad,Ae];refine wpAnyH_ready (rs:=[19]) (by kernel_rfl) (by simp) ?_
          refine Ai rfl (fun K hK=>?_) Am
          refine C8 rfl 105 #[.pointer (some ⟨g8,0,none⟩),.int .i64 (lo:Int),.int .i64 (hi:Int)] rfl (by kernel_rfl) (fun v w'=>v=.pointer (some ⟨g8,0,none⟩)∧Pf w' g8 B n d (Dw b (Dt b (st,[]) p) lo hi)∧Dg w9 w' g8∧An W w') ((FF.out Ot BS DW vw M2 JZ DU).mono fun e w' ⟨h1,h2,h3⟩=>⟨_,h1,rfl,h2,h3,h3 W BS DW⟩) ?_
          rintro v w10 ⟨rfl,DY,DZ,tj⟩;have xz:=DZ _ Ig Ie;refine hK.out _ _ ⟨Td.out _ tj,xz.cell k7⟩ (fun aa=>?_)
          clear hK K;simp only[Ac,Aa,Ab,Ao,A7,Ad,Ae];refine wpAnyH_ready (rs:=[22]) (by kernel_rfl) (by simp) ?_
          refine Ai rfl (fun K hK=>?_) Am
          refine C8 rfl 104 #[.pointer (some ⟨g8,0,none⟩),.int .i64 (at_:Int)] rfl (by kernel_rfl) (fun v w'=>v=.pointer (some ⟨g8,0,none⟩)∧Pf w' g8 B n d (Jl b (Dw b (Dt b (st,[]) p) lo hi) at_)∧Dg w10 w' g8∧An W w') ((Oi.out DY tj DW jq cu).mono fun e w' ⟨h1,h2,h3⟩=>⟨_,h1,rfl,h2,h3,h3 W tj DW⟩) ?_
          rintro v w11 ⟨rfl,EA,EB,yb⟩;have tl:=EB _ xz Ie;obtain⟨S11,q11,r11,k11,Ov⟩:=EA.own;refine hK.out _ _ ⟨Td.out _ yb,tl.cell k7⟩ (fun aa=>?_)
          clear hK K;simp only[Ac,Aa,Ab,Ao,A7,Ad,Ae];refine wpAnyH_take (i:=23) (v:=some g8) rfl (by kernel_rfl) (by kernel_rfl) (by kernel_rfl) (fun _ _ _ h=>h) (Or.inl ⟨by rfl,by(intro w ag;obtain⟨jo,CR⟩:=ag;go_simp)⟩) aa ?_
          simp only[Ac,Aa,Ab,Ao,A7,Ad,Ae];refine wpAnyH_take (i:=24) (v:=(.pointer (some ⟨g8,2,none⟩))) rfl (by kernel_rfl) (by kernel_rfl) (by kernel_rfl) (fun _ _ _ h=>h) (Or.inl ⟨by rfl,by(intro w ag;obtain⟨jo,CR⟩:=ag;go_simp)⟩) aa ?_
          simp only[Ac,Aa,Ab,Ao,A7,Ad,Ae];refine U5 (S':=fun w'=>(w'.cell? ⟨p3,1,none⟩=some (.int .i64 (at_:Int))∧w'.cell? ⟨g4,2,none⟩=some (.slice S7 q7 r7))∧w'.cell? ⟨g8,2,none⟩=some (.slice S11 q11 r11)) (fun w h=>h.1) _ _ _ _ ?_
          have aa:(w11.cell? ⟨p3,1,none⟩=some (.int .i64 (at_:Int))∧w11.cell? ⟨g4,2,none⟩=some (.slice S7 q7 r7))∧w11.cell? ⟨g8,2,none⟩=some (.slice S11 q11 r11):=⟨aa,k11⟩;refine wpAnyH_take (i:=25) (v:=(.slice S11 q11 r11)) rfl (by kernel_rfl) (by kernel_rfl) (by kernel_rfl) (fun _ _ _ h=>h) (Or.inl ⟨by rfl,by(intro w ag;obtain⟨jo,CR⟩:=ag;go_simp)⟩) aa ?_
          simp only[Ac,Aa,Ab,Ao,A7,Ad,Ae];have yd:=An.alloc w11 (.cells #[.slice S7 q7 r7,.slice S11 q11 r11] 25);refine wpAnyH_ready (rs:=[26]) (by kernel_rfl) (by simp) ?_
          refine Ai rfl (fun K hK=>?_) Am
          go_simp
          refine hK.out _ _ ⟨⟨yd.cell aa.1.1,yd.cell aa.1.2⟩,yd.cell aa.2⟩ (fun aa=>?_)
          clear hK K
          try simp only[Ac,Aa,Ab,Ao,A7,Ad,Ae]
          refine wpAnyH_take (i:=27) (v:=(.slice (some ⟨w11,0,none⟩) 2 2)) rfl (by kernel_rfl) (by kernel_rfl) (by kernel_rfl) (fun _ _ _ h=>h) (Or.inl ⟨by rfl,by(intro w ag;go_simp)⟩) aa ?_
          simp only[Ac,Aa,Ab,Ao,A7,Ad,Ae];refine wpAnyH_done (by kernel_rfl) ?_ _
          have hEa:An wa w11:=On.trans tl;have hL:Hid (Qx (w11.alloc (.cells #[.slice S7 q7 r7,.slice S11 q11 r11] 25)) w.heap.size w11.heap.size [lX b st at_ p lo hi,xX b st at_ p lo hi]):=A6 (Qx.two (Aq.new w11 _ _) (Ba.ext (Ba.ext (Bd.lower ho7 (by have:=zu.out;omega)) tl) (An.alloc _ _)) (Ba.ext (Bd.lower Ov (by have:=zu.out;omega)) (An.alloc _ _)))
          rw[←Id.out]at hL;have XG:Hid (Ba (w11.alloc (.cells #[.slice S7 q7 r7,.slice S11 q11 r11] 25)) w.heap.size S q r bst):=A6 (Ba.ext rj.out (hEa.trans yd));have XH:Hid (An W (w11.alloc (.cells #[.slice S7 q7 r7,.slice S11 q11 r11] 25))):=A6 (yb.to_alloc _);have XI:Hid (2=(Mv b st at_ p lo hi).length):=A6 (by rw[Id.out];rfl)
          clear o8 ur iz pb ut i7 pe uu j5 Oo Op BQ k7 ho7 On Oq If BR Ot Ou BS Ig DY DZ tj xz EA EB yb tl k11 Ov yd hEa aa k31 k31d Id;go_wp2_with fail
          go_meet
          exact⟨w11,2,rfl,XI.out,hL,XG,XH⟩
         |false=>
          have te:¬lo<hi:=by have:=HMO.out;simpa using this
          have Id:Mv b st at_ p lo hi=[fJ b st at_ p]:=by unfold Mv;rw[if_neg te]
          rw[←Id]at hL;have XI:Hid (1=(Mv b st at_ p lo hi).length):=A6 (by rw[Id];rfl)
          clear Id te;go_wp2_with fail
          go_meet
          exact⟨gL,1,rfl,XI.out,hL,rj,DV⟩
        case rest=>
         obtain⟨gL,kL,rfl,hkL,hL,hO,hX⟩:=hcut
         rename World=>wb
         clear rj DV;have Ih:=A6 hkL;clear hkL;have IY:kL≤2:=by rw[Ih.out];unfold Mv;split<;>simp
         have ax:=Au Ih (Au hL AO);clear Ih hL AO
         revert ax
         generalize Mv b st at_ p lo hi=ws;rintro⟨Ih,hL,AO⟩;go_wp2_with fail
         go_loopw [13,160] (fun s13 s160 wr=>∃(i q r:Nat) (S:Option Addr),i≤kL∧s160=.int .i64 i∧s13=.slice S q r∧Hid (Ba wb w.heap.size S q r (Gj bst (ws.take i)))∧wb=wr) (fun _ s160 _=>kL-(intOf s160).toNat)
         case atStart=>exact⟨0,q,r,S,by omega,rfl,rfl,hO,rfl⟩
         case round=>
          clear hO;obtain⟨i,q,r,S,zw,rfl,rfl,KA,rfl⟩:=hrel;by_cases ae:i<kL
          ·obtain⟨Si,qi,ri,ci,oi⟩:=hL.out i (by rw[←Ih.out];exact ae)
           have ST:Hid ((ws[i]?.getD []).length=qi):=A6 (Ba.ints oi).len;have HQ:Hid ((Gj bst (ws.take i)).length=q):=A6 (Ba.ints KA.out).len;have dz:Hid (Gj bst (ws.take (i+1))=Jr (Gj bst (ws.take i)) (ws[i]?.getD [])):=A6 (by rw[gQ (by rw[←Ih.out];exact ae),fC])
           have OI:=A6 oi;clear oi;by_cases hc:qi<q
           ·have uh:decide (qi<q)=true:=by simpa using hc
            have XJ:decide ((qi:Int)<(q:Int))=true:=by simp;omega
            have HN:Hid (Ba wb w.heap.size Si qi ri (Gj bst (ws.take (i+1)))):=A6 (by
             rw[dz.out];unfold Jr;rw[if_pos (by rw[ST.out,HQ.out];exact hc)]
             exact OI.out)
            clear hc KA ST HQ dz OI;go_wp2_with fail
            go_roundw
            case rel=>exact⟨i+1,qi,ri,Si,by omega,by go_num,rfl,HN,trivial⟩
            case measure=>simp[intOf];omega
           ·have uh:decide (qi<q)=false:=by simpa using hc
            have XJ:decide ((qi:Int)<(q:Int))=false:=by simp;omega
            have HN:Hid (Ba wb w.heap.size S q r (Gj bst (ws.take (i+1)))):=A6 (by
             rw[dz.out];unfold Jr;rw[if_neg (by rw[ST.out,HQ.out];exact hc)]
             exact KA.out)
            clear hc KA ST HQ dz OI;go_wp2_with fail
            go_roundw
            case rel=>exact⟨i+1,q,r,S,by omega,by go_num,rfl,HN,trivial⟩
            case measure=>simp[intOf];omega
          ·obtain rfl:i=kL:=by omega
           have HN:Hid (Ba wb w.heap.size S q r (Gj bst ws)):=A6 (by
            have:=KA.out;rw[List.take_of_length_le (by rw[←Ih.out];exact Aj _)]at this
            exact this)
           clear KA;go_wp2_with fail
           go_roundw
           case rel=>exact⟨p+1,q,r,S,Gj bst ws,by omega,by omega,by go_num,rfl,HN,AO,hX⟩
           case measure=>simp[intOf];omega
      ·obtain rfl:p=fi+1:=by omega
       have HF:Hid (kF w (F0 a st b at_) (.returned (.tuple #[.slice S q r,(0:Int)])) wr):=A6 ⟨S,q,r,rfl,by rw[Ic.out,Nat.sub_self];exact HO.out,HX.out.trans zy.out⟩
       clear Ic HO;go_wp2_with fail
       go_ret2
       exact HF.out
    ·have t2:decide (fi<fh)=false:=by simpa using qv
     have HF:Hid (kF w (F0 a st b at_) (.returned (.tuple #[.slice S q r,(0:Int)])) w9):=A6 ⟨S,q,r,rfl,by rw[we.out,if_neg qv];exact Om.out,HX.out.trans nj.out⟩
     clear we;go_wp2_with fail
     go_ret2
     exact HF.out
 ·have t1:decide (x<y)=false:=by simpa using fl
  have we:Hid (F0 a st b at_=(Jl b (st,[]) at_).2):=A6 (by rw[HS.out,if_neg fl])
  clear HS fl;have fj:=bg.to_drew;have k31:=Td.out w3 bg;have k31d:=Td.out _ fj;go_wp2_with fail
  go_region_law (first
   |(
    refine M4 rfl 102 #[.pointer (some ⟨p3,0,none⟩),.pointer (some ⟨p2,0,none⟩)] 56 rfl (by kernel_rfl) (fun v w'=>∃g,v=.pointer (some ⟨g,0,none⟩)∧W.heap.size≤g∧Pf w' g B n d (st,[])∧An W w') ((Oj.out fj).mono fun e w' ⟨g,h1,h2,h3,h4,h5⟩=>⟨_,h1,g,rfl,h2,h4,fj.trans h5⟩) ?_
    rintro v w4 ⟨g,rfl,hg,hJ4,li⟩;have k31:=Td.out w4 li)
   |(
    refine C8 rfl 104 #[.pointer (some ⟨g,0,none⟩),.int .i64 (at_:Int)] rfl (by kernel_rfl) (fun v w'=>v=.pointer (some ⟨g,0,none⟩)∧Pf w' g B n d (Jl b (st,[]) at_)∧An W w') ((Oi.out hJ4 li hg j8 (B8 _)).mono fun e w' ⟨h1,h2,h3⟩=>⟨_,h1,rfl,h2,h3 W li hg⟩) ?_
    rintro v w5 ⟨rfl,hJ5,WU⟩;obtain⟨S,q,r,k5,NJ⟩:=hJ5.own))
  all_goals
   have HF:Hid (kF w (F0 a st b at_) (.returned (.tuple #[.slice S q r,(0:Int)])) w5):=A6 ⟨S,q,r,rfl,by rw[we.out];exact Bd.lower NJ (by have:=zu.out;omega),HX.out.trans WU⟩
   clear hJ5 k5 NJ hJ4 li k31;go_simp
   go_wp2_with fail
   go_ret2
   exact HF.out
end
