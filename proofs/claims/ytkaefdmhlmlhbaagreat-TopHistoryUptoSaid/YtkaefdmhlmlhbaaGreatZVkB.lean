/-
  Part of the proof: ZVkB.
-/
import Derived.Test.YtkaefdmhlmlhbaaGreatZVkA
import Derived.Test.YtkaefdmhlmlhbaaGreatZVjQ
import Derived.IntWalk
set_option maxRecDepth 100000
set_option maxHeartbeats 16000000
set_option linter.unusedVariables false
set_option linter.unusedSimpArgs false
namespace Go.Proofs.YtkaefdmhlmlhbaaGreat
open Go.RowKit
open _root_.List renaming getElem?_append_left→Bo,getElem?_append_right→Bx,getElem?_eq_getElem→Bw,length_drop→Cy,take_of_length_le→Bl
open _root_.Nat renaming le_refl→Aj,le_trans→Aq
theorem LnV.none (w:World):LnV w [] []:=⟨rfl,fun i hi=>absurd hi (by simp)⟩
theorem LnV.push {w:World}{xs:List Value}{ls:List (List Int)}{u:Value}{l:List Int}(h:LnV w xs ls)(hu:L0 w u l):LnV w (xs++[u]) (ls++[l]):=by
 refine⟨by simp[h.1],fun i hi=>?_⟩
 rw[List.length_append,List.length_singleton]at hi;unfold gL;rcases Nat.lt_or_ge i ls.length with hlt|hge
 ·obtain⟨x,h1,h2⟩:=h.2 i hlt
  exact⟨x,by rw[Bo (by rw[h.1];exact hlt)];exact h1,by rw[Bo hlt];exact h2⟩
 ·obtain rfl:i=ls.length:=by omega
  exact⟨u,by rw[Bx (by rw[h.1];exact Aj _),h.1,Nat.sub_self];rfl,by rw[Bx (Aj _),Nat.sub_self];exact hu⟩
theorem Z5z:Tryz.prog.underlying 39=some (.slice (Tryz.prog.elem 39)):=by kernel_rfl
theorem Z5t (w:World):(sizeOf (Tryz.prog.elem 39)).run Tryz.prog w=.ok 1 w:=by kernel_rfl
theorem Z4x (A:Option Addr)(n c a:Nat)(h1:a≤n)(u:World):
 (Instr.slice 39 (.slice A n c) (some (.int .i64 (a:Int))) none none).run Tryz.prog u=.ok (.slice (cutA A c a) (n-a) (c-a)) u:=by
 rw[run_slice_l u 39 A n c Z5z .i64 a (by omega) (by omega),Z5t]
 simp[sliced,cutA,Result.andThen]
theorem Vs.from_ {w:World}{A:Option Addr}{n c:Nat}{ls:List (List Int)}{xs:List Value}(h:Rd w 1 A n c xs)(hv:LnV w xs ls){a:Nat}(ha:a≤n):Vs w (cutA A c a) (n-a) (c-a) (ls.drop a):=by
 have hl:=h.len;have:=Rd.cut h ha (Aj n);rw[Nat.mul_one,Nat.mul_one]at this;refine⟨xs.drop a,?_,by simp[hv.1],fun i hi=>?_⟩
 ·rw[Bl (by rw[Cy];omega)]at this
  exact this
 ·rw[Cy]at hi
  obtain⟨v,h1,h2⟩:=hv.2 (a+i) (by omega)
  refine⟨v,by rw[List.getElem?_drop];exact h1,?_⟩
  unfold gL at h2 ⊢;rw[List.getElem?_drop];exact h2
def EvS (w:World)(A:Option Addr)(n c:Nat)(evs:List (Int×List Int)):Prop:=∃xs,Rd w 2 A n c xs∧evs.length=n∧∀i,i<n→∃v,xs[i*2]? = some (.int .i64 (gV evs i).1)∧xs[i*2+1]? = some v∧L0 w v (gV evs i).2
theorem EvS.at_ {w w':World}{A:Option Addr}{n c:Nat}{evs:List (Int×List Int)}(h:EvS w A n c evs)(he:Am w w'){k:Nat}(hk:k<n):
 ∃ad S q r,A=some ad∧w'.cell? (ad.add (k*2))=some (.int .i64 (gV evs k).1)∧w'.cell? ⟨(ad.add (k*2)).block,(ad.add (k*2)).off+1,none⟩=some (.slice S q r)∧L0 w (.slice S q r) (gV evs k).2∧(gV evs k).2.length=q:=by
 obtain⟨xs,h1,h2,h3⟩:=h;obtain⟨ad,hA,hc⟩:=h1.at_ hk;obtain⟨v,k1,k2,k3⟩:=h3 k hk;obtain⟨S,q,r,rfl,k4,k5⟩:=k3;refine⟨ad,S,q,r,hA,he.cell (hc _ _ k1),?_,⟨S,q,r,rfl,k4,k5⟩,k4.len⟩
 have:=hc _ _ k2;rw[←Ku]at this;exact he.cell this
theorem Lm.evS {w:World}{b:Nat}{col:Nat→Nat}{E S:Value}{evs:List (Int×List Int)}{vis:List Int}(h:Lm w b col E S evs vis):(∃A n c,E=.slice A n c∧EvS w A n c evs)∧∃A n c,S=.slice A n c:=by
 obtain⟨A,n,c,xs,F,rfl,h1,h2,h3,_⟩:=h.ev;obtain⟨A',n',c',rfl,h4⟩:=h.vi;exact⟨⟨A,n,c,rfl,xs,B8.rd h1,h2,fun i hi=>by obtain⟨y,k1,k2,k3⟩:=h3.here i (by omega);exact⟨y,k1,k2,k3.sl⟩⟩,A',n',c',rfl⟩
theorem Z5m {evs:List (Int×List Int)}{k:Nat}(h:k<evs.length):Z4b (evs.take (k+1))=Z4b (evs.take k)++(if(gV evs k).1=2∧0<(gV evs k).2.length then [(gV evs k).2]else []):=by
 rw[List.take_add_one,Bw h]
 show Z4b (evs.take k++[evs[k]])=_
 rw[Z4k]
 congr 1
 unfold gV;rw[Bw h]
 show Z4b [evs[k]]=if(evs[k]).1=2∧0<(evs[k]).2.length then [(evs[k]).2]else []
 unfold Z4b;by_cases e:(evs[k]).1=2∧0<(evs[k]).2.length
 ·rw[if_pos e,List.filter_cons_of_pos (by simpa using e)];rfl
 ·rw[if_neg e,List.filter_cons_of_neg (by simpa using e)];rfl
def Z5o (w:World)(s:PS)(v:Value)(w':World):Prop:=∃(A:Option Addr) (n c:Nat) (L:Option Addr) (m d:Nat) (R:Value) (f:Nat→Value),v=.agg (Z3 (.slice A n c) f (.slice L m d) R s)∧Vs w' L m d s.hi.lines∧Am w w'
theorem Z5u {w:World}{p:Value}{s:PS}(h:Calls Tryz.prog 14 #[p] w fun e w'=>∃cs,e=.returned (.agg cs)∧Eo w' w.heap.size cs s∧Am w w'):
 Calls Tryz.prog 14 #[p] w fun e w'=>∃v,e=.returned v∧Z5o w s v w':=h.mono fun e w' hh=>by
 obtain⟨cs,rfl,hL,he⟩:=hh;obtain⟨L',m',d',e38,hl⟩:=hL.lines;obtain⟨A,n,c,L,m,d,R,f,rfl,_,_⟩:=hL.lit;have e38:some (Value.slice L m d)=some (.slice L' m' d'):=e38;injection e38 with e38;injection e38 with x1 x2 x3;subst x1 x2 x3;exact⟨_,rfl,A,n,c,L,m,d,R,f,rfl,hl.lns,he⟩
theorem Z4j {w:World}{most W:Int}{A:Option Addr}{n c:Nat}{ts:List ByteArray}(hr:Rd w 1 A n c (ts.map Value.string))(hsz:szI ts n≤1900000):
 Calls Tryz.prog 4 #[.int .i64 most,.int .i64 W,.slice A n c] w fun e w'=>e=.returned (.bool true)∧Am w w':=by
 obtain⟨i0,hi,hz0,hz1,hz2⟩:=info_parts M9;have HI:=A6 hi;clear hi;have HF:Hid (∀wq,Am w wq→_):=A6 fun wq he=>J1r (most:=most) (W:=W) (Rd.ext hr he) (fun i hi _=>Aq (Q9q ts hi) hsz)
 have hlen:ts.length=n:=by have:=hr.len;rw[List.length_map]at this;omega
 have HZ:=A6 (And.intro hlen hsz);clear hr hlen hsz;go_enter Tryz.func4,Tryz.ntmps4
 go_wp2_with fail
 refine(Q1d w).mono ?_
 rintro e w1 ⟨rfl,he1⟩;have HX1:=A6 he1;clear he1;go_wp2_with fail
 refine(HF.out w1 HX1.out).mono ?_
 rintro e w2 ⟨he2,hcase⟩;have HX2:=A6 (HX1.out.trans he2);clear he2 HF;rcases hcase with⟨hf,hg,p,col,v,E,S,rfl,hm,hs,hc,hh⟩|⟨_,rfl⟩
 case inr=>
  go_wp2_with fail
  go_ret
  exact⟨rfl,HX2.out⟩
 obtain⟨⟨E1,n1,k1,rfl,hev⟩,S1',q1,z1,rfl⟩:=hh.evS;have hist:Hid ((Fb (Jt most W.toNat) ts n).hi.lines=J4p most.toNat (Z4b (evI (Jt most W.toNat) ts n))∧(evI (Jt most W.toNat) ts n).length=n1∧n1*24≤140737488351232):=A6 (by
  obtain⟨z1,z2⟩:=HZ.out;have h1:=hf.2.1;have h2:=hf.2.2;obtain⟨_,_,y1,y2⟩:=Z5i (W:=W.toNat) hf.1.1 hf.1.2 (by omega) (by omega) (ts:=ts) (fun j hj=>(hg j (by omega)).2) (by rw[z1];exact z2) n (by omega)
  have y3:=hev.choose_spec.2.1;have y4:=Aq y2 (Nat.mul_le_mul_right 1905000 z2);exact⟨y1,y3,by rw[←y3];omega⟩)
 have htx:(Fb (Jt most W.toNat) ts n).tx.length≤200:=hs.inv.choose_spec.line.len;have hlh:(Fb (Jt most W.toNat) ts n).hi.lines.length≤1000:=by have h1:=hs.inv.choose_spec.hist;have:=h1.len;have:=h1.hi;omega
 have HL:Hid (∀wq,Am w2 wq→_):=A6 fun wq he=>Nl (hm.ext he) htx hlh
 have HEv:=A6 hev;have hcm:=Aq hev.choose_spec.1.ncap hev.choose_spec.1.nmax;unfold maxLen at hcm;have hm1:=hf.1.1;have hm2:=hf.1.2;clear hf hg hm hs hc hh htx hlh HZ hev;generalize Fb (Jt most W.toNat) ts n=s1 at*;generalize evI (Jt most W.toNat) ts n=evs at*;obtain⟨r,rfl⟩:∃r:Nat,most=r:=⟨most.toNat,by omega⟩
 rw[show((r:Int)).toNat=r by omega]at hist
 go_wp2_with fail
 go_loopw [11,29] (fun s11 s29 wx=>∃(k m tc:Nat) (T:Option Addr) (xs:List Value),k≤n1∧s29=.int .i64 (k:Int)∧s11=.slice T m tc∧m≤k∧Hid (B8 wx w2.heap.size 25 1 T m tc xs)∧Hid (LnV w2 xs (Z4b (evs.take k)))∧Hid (Am w2 wx)) (fun _ s29 _=>n1-(intOf s29).toNat)
 case atStart=>exact⟨0,0,0,none,[],by omega,rfl,rfl,by omega,A6 (B8.nil _ _ _ _),A6 (by rw[List.take_zero];exact LnV.none w2),A6 (Am.refl w2)⟩
 case round=>
  obtain⟨k,m,tc,T,xs,hk,rfl,rfl,hmk,HO,HV,HX⟩:=hrel;by_cases hlt:k<n1
  ·obtain⟨ad,B,mm,q,rfl,g0,g1,hR,hq⟩:=HEv.out.at_ HX.out hlt
   have hsn:=A6 (Z5m (evs:=evs) (k:=k) (by rw[hist.out.2.1];exact hlt))
   have HR:=A6 hR;have hmq:mm≤maxLen:=by obtain⟨_,_,_,e,h1,_⟩:=hR;cases e;exact Aq h1.ncap h1.nmax
   unfold maxLen at hmq;have h24:=hist.out.2.2;generalize (gV evs k).1=kd at*;generalize (gV evs k).2=ln at*;subst hq;have e0:=(Am.alloc wr (.cells #[.int .i64 kd,.slice B ln.length q] 48)).cell g0;have e1:=(Am.alloc wr (.cells #[.int .i64 kd,.slice B ln.length q] 48)).cell g1;have HXa:=A6 (HX.out.to_alloc (.cells #[.int .i64 kd,.slice B ln.length q] 48));have HOa:=A6 (B8.ext HO.out (Am.alloc wr (.cells #[.int .i64 kd,.slice B ln.length q] 48)));have hb:=Ap.new wr 48 #[.int .i64 kd,.slice B ln.length q];have b0:=hb.cell 0;have b1:=hb.cell 1;simp only[List.getElem?_toArray,List.getElem?_cons_zero,List.getElem?_cons_succ]at b0 b1;clear hR hb HX HO;by_cases hacc:kd=2∧0<ln.length
   ·obtain⟨rfl,hl0⟩:=hacc
    have hm0:Hid (Z4b (evs.take (k+1))=Z4b (evs.take k)++[ln]):=A6 (by rw[hsn.out,if_pos ⟨rfl,hl0⟩])
    clear hsn;have hlb:decide ((0:Int)<(ln.length:Int))=true:=by simp;omega
    go_upto_region 10 with fail
    change Code.wp _ _ _ _ (wr.alloc (.cells #[.int .i64 2,.slice B ln.length q] 48));generalize wr.alloc (.cells #[.int .i64 2,.slice B ln.length q] 48)=wa at*;have hown:=HOa.out;have hx:=HXa.out;clear e0 e1 g0 g1;go_upto_region 11 with fail
    go_wp2_with (at_builtin;refine Cl rfl (.tmp 42) (.tmp 45) 39 rfl w2 w2.heap.size 25 i0 (.slice none 0 0) 1 24 Tryz.underlying39 HI.out hz0 hz1 hz2 rfl (by decide) T m tc xs rfl hown #[.slice B ln.length q] rfl ?_ rfl ?_ ?_ hx (Aj _) hx.hsize ?_)
    ·simp[Value.oneCell']
    ·unfold maxLen;omega
    ·omega
    ·intro T' tc' w5 hown' hgr' _ hx'
     have HX5:Hid (Am w2 w5):=A6 hx';have HO5:Hid (B8 w5 w2.heap.size 25 1 T' (m+1) tc' (xs++[.slice B ln.length q])):=A6 (by simpa using hown')
     clear hown hx hown' hgr' hx' HOa HXa b0 b1;go_wp2_with fail
     go_roundw
     case rel=>exact⟨k+1,m+1,tc',T',_,by omega,by go_num,rfl,by omega,HO5,A6 (by rw[hm0.out];exact HV.out.push HR.out),HX5⟩
     case measure=>simp[intOf];omega
   ·have hm0:Hid (Z4b (evs.take (k+1))=Z4b (evs.take k)):=A6 (by rw[hsn.out,if_neg hacc,List.append_nil])
    clear hsn;by_cases hk2:kd=2
    ·subst hk2
     have hl0:ln.length=0:=by omega
     have hlb:decide (0<ln.length)=false:=by simp[hl0]
     clear hl0 hacc;go_wp2_with fail
     go_roundw
     case rel=>exact⟨k+1,m,tc,T,xs,by omega,by go_num,rfl,by omega,HOa,A6 (by rw[hm0.out];exact HV.out),HXa⟩
     case measure=>simp[intOf];omega
    ·have hkb:(kd==2)=false:=by simp[hk2]
     go_wp2_with fail
     go_roundw
     case rel=>exact⟨k+1,m,tc,T,xs,by omega,by go_num,rfl,by omega,HOa,A6 (by rw[hm0.out];exact HV.out),HXa⟩
     case measure=>simp[intOf];omega
  ·obtain rfl:k=n1:=by omega
   have hVl:=HV.out.1;have hxl:=B8.len HO.out;have htc:=Rd.ncap (B8.rd HO.out);have htm:=Rd.nmax (B8.rd HO.out);unfold maxLen at htm;have hall:evs.take k=evs:=Bl (by rw[hist.out.2.1];exact Aj _)
   rw[hall]at hVl;have HV2:Hid (LnV wr xs (Z4b evs)):=A6 (by have:=HV.out;rw[hall]at this;exact this.ext HX.out)
   have hll:(Z4b evs).length=m:=by omega
   have hw1:IntKind.i64.wrap ((m:Int)-(r:Int))=(m:Int)-(r:Int):=IntWalk.i64_in _ (by omega)
   have HLk:=A6 (Z5u (HL.out wr.drew HX.out.to_drew));have hend:=HX2.out.trans HX.out.to_drew;by_cases hmr:m≤r
   ·have hrun:∀u:World,(Instr.slice 39 (.slice T m tc) (some (.int .i64 0)) none none).run Tryz.prog u=.ok (.slice (cutA T tc 0) m tc) u:=fun u=>by
     have:=Z4x T m tc 0 (by omega) u
     simpa using this
    have HT:Hid (∀wq,Am wr wq→Vs wq (cutA T tc 0) m tc s1.hi.lines):=A6 fun wq he=>by
     have:=Vs.from_ (B8.rd HO.out) HV2.out (a:=0) (by omega)
     rw[hist.out.1,Z4h (by omega)]
     have:=this.ext he
     simpa using this
    have hz:max (0:Int) ((m:Int)-(r:Int))=0:=by omega
    clear HO HV HV2 HX hVl hxl hll hall hlt;go_upto_region 13 with fail
    go_region_law (first
     |(
      refine Bu rfl 14 #[.pointer (some ⟨p,0,none⟩)] rfl (by kernel_rfl) (Z5o wr.drew s1) HLk.out ?_
      rintro v3 w3 ⟨A3,n3,c3,Lx3,m3,d3,R3,f3,rfl,hLn,he3⟩;have hT:=HT.out w3 ((Am.drew wr).trans he3);obtain rfl:m=m3:=by have h1:=hLn.len;have h2:=hT.len;omega
      have hf1:=J1a (.slice A3 n3 c3) f3 Lx3 (m) d3 R3 s1;have HS:=A6 (Q1u hLn hT);have HE3:=A6 (hend.trans he3);clear hLn he3 hT)
     |(
      refine Bu rfl 15 #[.slice Lx3 m d3,.slice (cutA T tc 0) m tc] rfl (by kernel_rfl) (fun v w'=>v=.bool true∧Am w3 w') (HS.out.mono fun e w' hg=>⟨_,hg.1,rfl,hg.2⟩) ?_
      rintro v w4 ⟨rfl,he4⟩))
    all_goals
     have hend2:=HE3.out.trans he4;go_simp
     go_wp2_with fail
     go_ret
     exact⟨rfl,hend2⟩
   ·obtain⟨lo,hlo⟩:∃lo,lo=m-r:=⟨_,rfl⟩
    have hlm:lo≤m:=by omega
    have HT:Hid (∀wq,Am wr wq→Vs wq (if tc=lo then T else Option.map (fun x=>x.add lo) T) (m-lo) (tc-lo) s1.hi.lines):=A6 fun wq he=>by
     have:=(Vs.from_ (B8.rd HO.out) HV2.out hlm).ext he;rw[hist.out.1];unfold J4p;rw[hll,show m-min m r=lo by omega]
     exact this
    have hz:(m:Int)-(r:Int)=(lo:Int):=by omega
    have hlo0:0<lo:=by omega
    rw[hz]at hw1;clear HO HV HV2 HX hVl hxl hll hall hlt hlo hmr;go_upto_region 13 with fail
    go_region_law (first
     |(
      refine Bu rfl 14 #[.pointer (some ⟨p,0,none⟩)] rfl (by kernel_rfl) (Z5o wr.drew s1) HLk.out ?_
      rintro v3 w3 ⟨A3,n3,c3,Lx3,m3,d3,R3,f3,rfl,hLn,he3⟩;have hT:=HT.out w3 ((Am.drew wr).trans he3);obtain rfl:m-lo=m3:=by have h1:=hLn.len;have h2:=hT.len;omega
      have hf1:=J1a (.slice A3 n3 c3) f3 Lx3 (m-lo) d3 R3 s1;have HS:=A6 (Q1u hLn hT);have HE3:=A6 (hend.trans he3);clear hLn he3 hT)
     |(
      refine Bu rfl 15 #[.slice Lx3 (m-lo) d3,.slice (if tc=lo then T else Option.map (fun x=>x.add lo) T) (m-lo) (tc-lo)] rfl (by kernel_rfl) (fun v w'=>v=.bool true∧Am w3 w') (HS.out.mono fun e w' hg=>⟨_,hg.1,rfl,hg.2⟩) ?_
      rintro v w4 ⟨rfl,he4⟩))
    all_goals
     have hend2:=HE3.out.trans he4;go_simp
     go_wp2_with fail
     go_ret
     exact⟨rfl,hend2⟩
