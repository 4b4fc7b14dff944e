/-
  Part of the proof: ZVjT.
-/
import Derived.Test.YtkaefdmhlmlhbaaGreatZVjQ
set_option maxRecDepth 100000
set_option maxHeartbeats 16000000
set_option linter.unusedVariables false
set_option linter.unusedSimpArgs false
namespace Go.Proofs.YtkaefdmhlmlhbaaGreat
open Go.RowKit
open _root_.And renaming intro→Ba
open _root_.List renaming nil_append→Hq
open _root_.Nat renaming zero_le→Au
theorem Eo.same {w:World}{b:Nat}{cs:Array Value}{s:PS}{t:List (Int×List Int)}{u:List Int}(h:Eo w b cs { s with told:=t,vis:=u }):Eo w b cs s:=
 ⟨h.size,h.text,h.at_,h.mode,h.part,h.find,h.regs,h.past,h.lines,h.where_,h.over,h.row,h.rat,h.off⟩
theorem Q4b (s:PS)(t:List (Int×List Int))(u:List Int)(b:ByteArray):Cw { s with told:=t,vis:=u } b=Cw s b:=rfl
theorem Z2i (s0:PS)(a:ByteArray):Fb s0 [a] 1=Cw s0 a:=by unfold Fb;simp only[List.take_succ_cons,List.take_zero,List.foldl_cons,List.foldl_nil]
theorem Z2h (s0:PS)(a b c:ByteArray):Fb s0 [a,b,c] 1=Cw s0 a∧Fb s0 [a,b,c] 2=Cw (Cw s0 a) b∧Fb s0 [a,b,c] 3=Cw (Cw (Cw s0 a) b) c:=by
 refine⟨?_,?_,?_⟩<;>(unfold Fb;simp only[List.take_succ_cons,List.take_zero,List.foldl_cons,List.foldl_nil])
theorem Z3o (s0:PS)(a b c:ByteArray):Fb s0 [a++b++c] 1={ Fb s0 [a,b,c] 3 with told:=evI s0 [a,b,c] 3,vis:=viI s0 [a,b,c] 3 }∧evI s0 [a++b++c] 1=evI s0 [a,b,c] 3∧viI s0 [a++b++c] 1=viI s0 [a,b,c] 3:=by
 obtain⟨r1,r2,r3⟩:=Z2h s0 a b c;have e:Cw s0 (a++b++c)={ Cw (Cw (Cw s0 a) b) c with told:=(Cw s0 a).told++(Cw (Cw s0 a) b).told++(Cw (Cw (Cw s0 a) b) c).told,vis:=(Cw s0 a).vis++(Cw (Cw s0 a) b).vis++(Cw (Cw (Cw s0 a) b) c).vis }:=by
  rw[J5p s0 (a++b) c,J5p s0 a b,Q4b]
 have h1:evI s0 [a,b,c] 3=(Cw s0 a).told++(Cw (Cw s0 a) b).told++(Cw (Cw (Cw s0 a) b) c).told:=by
  show(([]++(Fb s0 [a,b,c] 1).told)++(Fb s0 [a,b,c] 2).told)++(Fb s0 [a,b,c] 3).told=_
  rw[r1,r2,r3,Hq]
 have h2:viI s0 [a,b,c] 3=(Cw s0 a).vis++(Cw (Cw s0 a) b).vis++(Cw (Cw (Cw s0 a) b) c).vis:=by
  show(([]++(Fb s0 [a,b,c] 1).vis)++(Fb s0 [a,b,c] 2).vis)++(Fb s0 [a,b,c] 3).vis=_
  rw[r1,r2,r3,Hq]
 have r:=Z2i s0 (a++b++c);refine⟨?_,?_,?_⟩
 ·rw[r,e,r3,h1,h2]
 ·show []++(Fb s0 [a++b++c] 1).told=_
  rw[r,e,h1,Hq]
 ·show []++(Fb s0 [a++b++c] 1).vis=_
  rw[r,e,h2,Hq]
theorem J4z {w:World}{g n:Nat}{ts:List ByteArray}(hb:Ap w g 9 (ts.map Value.string).toArray)(hn:ts.length=n)(hm:n≤1000):Rd w 1 (some ⟨g,0,none⟩) n n (ts.map Value.string):=by
 refine⟨by rw[List.length_map];omega,Nat.le_refl _,by unfold maxLen;omega,fun _=>⟨_,rfl,fun j u hj=>?_⟩⟩
 have e1:(⟨g,0,none⟩:Addr).add j=⟨g,j,none⟩:=by simp[Addr.add_lit]
 rw[e1,hb.cell j]
 simpa using hj
theorem Lm.evs {w:World}{b:Nat}{col:Nat→Nat}{E S:Value}{evs:List (Int×List Int)}{vis:List Int}(h:Lm w b col E S evs vis):(∃A n c,E=.slice A n c∧EvV w A n c evs)∧∃A n c,S=.slice A n c∧Bj w A n c vis:=by
 obtain⟨A,n,c,xs,F,rfl,h1,h2,h3,_⟩:=h.ev;obtain⟨A',n',c',rfl,h4⟩:=h.vi;have hev:EvR w b (.slice A n c) evs:=⟨A,n,c,xs,rfl,h1,h2,h3.here⟩;exact⟨hev.v,A',n',c',rfl,h4.ints⟩
theorem Yg {w:World}{most W:Int}{a b c:ByteArray}(ha:a.size≤140737488351232)(hb:b.size≤140737488351232)(hc0:c.size≤140737488351232):
 Calls Tryz.prog 3 #[.int .i64 most,.int .i64 W,.string a,.string b,.string c] w fun e w'=>e=.returned (.bool true)∧Am w w':=by
 have H1:Hid (∀wq,_):=A6 fun(wq:World)=>J1r (most:=most) (W:=W) (J4z (n:=3) (ts:=[a,b,c]) (Ap.new wq 9 #[.string a,.string b,.string c]) rfl (by decide)) (fun i hi hs=>by
  have h0:=hs 0;have h1:=hs 1;have h2:=hs 2;have e:i=0∨i=1∨i=2∨i=3:=by omega
  have z0:(gB [a,b,c] 0)=a:=rfl;have z1:(gB [a,b,c] 1)=b:=rfl;have z2:(gB [a,b,c] 2)=c:=rfl;rcases e with rfl|rfl|rfl|rfl
  ·exact Au _
  ·show 0+((gB [a,b,c] 0).size+1)≤_;have:=h0 (by decide);omega
  ·show 0+((gB [a,b,c] 0).size+1)+((gB [a,b,c] 1).size+1)≤_;have:=h0 (by decide);have:=h1 (by decide);omega
  ·show 0+((gB [a,b,c] 0).size+1)+((gB [a,b,c] 1).size+1)+((gB [a,b,c] 2).size+1)≤_;have:=h0 (by decide);have:=h1 (by decide);have:=h2 (by decide);omega)
 have H2:Hid (∀wq,_):=A6 fun(wq:World)=>J1r (most:=most) (W:=W) (J4z (n:=1) (ts:=[a++b++c]) (Ap.new wq 9 #[.string (a++b++c)]) rfl (by decide)) (fun i hi hs=>by
  have h0:=hs 0;have e:i=0∨i=1:=by omega
  rcases e with rfl|rfl
  ·exact Au _
  ·show 0+((gB [a++b++c] 0).size+1)≤_;have:=h0 (by decide);omega)
 go_enter Tryz.func3,Tryz.ntmps3
 go_wp2_with fail
 refine(Q1d w).mono ?_
 rintro e w1 ⟨rfl,he1⟩;have HX1:=A6 (he1.to_alloc (.cells #[.string a,.string b,.string c] 9));clear he1;go_wp2_with fail
 refine(H1.out w1).mono ?_
 rintro e w2 ⟨he2,hcase⟩;have HX2:=A6 (HX1.out.trans he2);have HX2b:=A6 ((HX1.out.trans he2).to_alloc (.cells #[.string (a++b++c)] 9));clear he2;rcases hcase with⟨_,_,p,col,v,E,S,rfl,hm,hs,hc,hh⟩|⟨_,rfl⟩
 ·obtain⟨⟨E1,n1,k1,rfl,hev1⟩,S1',q1,z1,rfl,hvi1⟩:=hh.evs
  have HA:=A6 (Ba hm (Ba hs (Ba hev1 hvi1)));clear hm hs hc hh hev1 hvi1;go_wp2_with fail
  refine(H2.out w2).mono ?_
  rintro e w3 ⟨he3,hcase⟩;have HX3:=A6 (HX2b.out.trans he3);have HE23:=A6 (((Am.alloc w2 (.cells #[.string (a++b++c)] 9))).trans he3);clear he3;rcases hcase with⟨_,_,p3,col3,v3,E3,S3,rfl,hm3,hs3,hc3,hh3⟩|⟨_,rfl⟩
  ·obtain⟨⟨E2,n2,k2,rfl,hev2⟩,S2',q2,z2,rfl,hvi2⟩:=hh3.evs
   obtain⟨c1,c2,c3⟩:=Z3o (Jt most W.toNat) a b c;rw[c2]at hev2;rw[c3]at hvi2;obtain⟨hm,hs,hev1,hvi1⟩:=HA.out;have hnn:n2=n1:=by have h1:=hev1.choose_spec.2.1;have h2:=hev2.choose_spec.2.1;omega
   subst hnn;have HEv:=A6 (Vm (hev1.ext HE23.out) hev2);have HVi:Hid (∀wq,Am w3 wq→Calls Tryz.prog 12 #[.slice S1' q1 z1,.slice S2' q2 z2] wq fun e w'=>e=.returned (.bool true)∧Am wq w'):=A6 fun wq he=>
    (Jg ((hvi1.ext HE23.out).ext he) (hvi2.ext he)).mono fun e w' ⟨h1,h2⟩=>⟨by rw[h1,Lv.2 rfl],h2⟩
   have htx:(Fb (Jt most W.toNat) [a,b,c] 3).tx.length≤200:=hs.inv.choose_spec.line.len;have hlh:(Fb (Jt most W.toNat) [a,b,c] 3).hi.lines.length≤1000:=by have h1:=hs.inv.choose_spec.hist;have:=h1.len;have:=h1.hi;omega
   have HL1:Hid (∀wq,Am w3 wq→_):=A6 fun wq he=>Nl (hm.ext (HE23.out.trans he)) htx hlh
   rw[c1]at hm3;have HL2:Hid (∀wq,Am w3 wq→_):=A6 fun wq he=>Nl (hm3.ext he) htx hlh
   clear hev1 hev2 hvi1 hvi2 hm hs hm3 hs3 hc3 hh3 c1 c2 c3 htx hlh HA;go_wp2_with fail
   refine HEv.out.mono ?_
   rintro e w4 ⟨rfl,he4⟩;have HE4:=A6 he4;clear he4;go_wp2_with fail
   refine(HVi.out w4 HE4.out).mono ?_
   rintro e w5 ⟨rfl,he5⟩;have HE5:=A6 (HE4.out.trans he5);clear he5;go_wp2_with fail
   refine(HL1.out w5 HE5.out).mono ?_
   rintro e w6 ⟨cs,rfl,hL,he6⟩;have HE6:=A6 (HE5.out.trans he6);have HLa:=A6 hL;clear he6 hL;go_wp2_with fail
   refine(HL2.out w6 HE6.out).mono ?_
   rintro e w7 ⟨ds,rfl,hL,he7⟩;have HSL:=A6 (J0v (HLa.out.ext he7) hL.same);have HE7:=A6 (HX3.out.trans (HE6.out.trans he7));clear he7 hL;go_wp2_with fail
   refine HSL.out.mono ?_
   rintro e w8 ⟨rfl,he8⟩;have HE8:=A6 (HE7.out.trans he8);clear he8;go_wp2_with fail
   go_ret
   exact⟨rfl,HE8.out⟩
  ·go_wp2_with fail
   go_ret
   exact⟨rfl,HX3.out⟩
 ·go_wp2_with fail
  refine(H2.out w2).mono ?_
  rintro e w3 ⟨he3,hcase⟩;have HX3:=A6 (HX2b.out.trans he3);clear he3;rcases hcase with⟨_,_,p3,col3,v3,E3,S3,rfl,hm3,hs3,hc3,hh3⟩|⟨_,rfl⟩
  ·obtain⟨⟨E2,n2,k2,rfl,_⟩,S2',q2,z2,rfl,_⟩:=hh3.evs
   clear hm3 hs3 hc3 hh3;go_wp2_with fail
   go_ret
   exact⟨rfl,HX3.out⟩
  ·go_wp2_with fail
   go_ret
   exact⟨rfl,HX3.out⟩
