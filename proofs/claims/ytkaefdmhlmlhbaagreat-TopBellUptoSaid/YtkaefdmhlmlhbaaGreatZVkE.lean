/-
  Part of the proof: ZVkE.
-/
import Derived.Test.YtkaefdmhlmlhbaaGreatZVkD
import Derived.Test.YtkaefdmhlmlhbaaGreatZVjT
set_option maxRecDepth 100000
set_option maxHeartbeats 16000000
set_option linter.unusedVariables false
set_option linter.unusedSimpArgs false
namespace Go.Proofs.YtkaefdmhlmlhbaaGreat
open Go.RowKit
open _root_.And renaming intro→Ba
open _root_.Nat renaming le_refl→Aj,le_trans→Aq,zero_le→Au
theorem Eo.win {w w':World}{b:Nat}{cs:Array Value}{s:PS}(h:Eo w b cs s)(hw:∀k,b≤k→k<w.heap.size→w'.heap[k]? = w.heap[k]?):Eo w' b cs s:=
 {
  h with
  text:=let ⟨v,h1,h2⟩:=h.text;⟨v,h1,h2.win hw⟩
  regs:=fun i hi=>let ⟨v,h1,h2⟩:=h.regs i hi;⟨v,h1,h2.win hw⟩
  lines:=let ⟨A,n,c,h1,h2⟩:=h.lines;⟨A,n,c,h1,h2.win hw⟩
  row:=let ⟨v,h1,h2⟩:=h.row;⟨v,h1,h2.win hw⟩ }
theorem Z5a (T:Value)(f:Nat→Value)(Ls R:Value)(s:PS)(u:World):(Instr.field 43 (.agg (Z3 T f Ls R s)) 8).run Tryz.prog u=.ok (.bool s.over) u:=by kernel_rfl
theorem Z6k:∀(f:Nat) (r:List Nat),(Z4e f r).length≤f:=by
 intro f
 induction f with
 |zero=>intro r;exact Aj _
 |succ f ih=>
  intro r;rw[Z4e];split
  ·exact Au _
  ·rw[List.length_cons];have:=ih (r.drop (Ka r));omega
theorem Z6d (key:Int)(w:World):Calls Tryz.prog 16 #[.int .i64 key] w fun e w'=>∃(t:ByteArray) (x:Int),e=.returned (.tuple #[.string t,.int .i64 x])∧w=w'∧(x=0→∃c:Nat,Jm (c:Int)∧key=c∧t=Fx (Mu c)):=by
 by_cases h:Jm key
 ·obtain⟨c,rfl⟩:∃c:Nat,key=c:=⟨key.toNat,by have:=h;unfold Jm at this;omega⟩
  exact(Z6b h w).mono fun e w' ⟨h1,h2⟩=>⟨_,_,h1,h2,fun _=>⟨c,h,rfl,rfl⟩⟩
 ·exact(Z6l h w).mono fun e w' ⟨h1,h2⟩=>⟨_,_,h1,h2,fun e=>absurd e (by decide)⟩
theorem Z6j {s:ByteArray}(w:World)(hs:s.size≤1048576):Calls Tryz.prog 17 #[.string s] w fun e w'=>∃(A:Option Addr) (q c:Nat) (y x:Int),e=.returned (.tuple #[.slice A q c,.int .i64 y,.int .i64 x])∧x=((Z4d s.size (Ao s):Nat):Int)∧Am w w':=by
 have:=Z6k s.size (Ao s);exact(Z6o (w:=w) (by omega) (by omega)).mono fun e w' ⟨A,q,c,l,h1,_,_,_,h2⟩=>⟨A,q,c,_,_,h1,rfl,h2⟩
theorem Z4n (w:World)(cs:Array Value):Am w ((w.alloc (.cells Kz 43)).setRow w.heap.size cs)∧Ap ((w.alloc (.cells Kz 43)).setRow w.heap.size cs) w.heap.size 43 cs:=
 ⟨(Am.alloc w (.cells Kz 43)).setRow (Aj _) cs,(Ap.new w 43 Kz).setRow cs⟩
def Z6p (w:World)(col:Nat→Nat)(p:Nat)(s:PS)(v:Value)(w':World):Prop:=∃(col':Nat→Nat) (v':SV) (E:Option Addr) (n k:Nat) (S2:Option Addr) (n2 k2:Nat),
 v=.tuple #[.slice E n k,.slice S2 n2 k2,.int .i64 0]∧Dk w' col' p v' s∧Lb w col w' col'∧s.told.length=n∧EvV w' E n k s.told∧s.tx.length≤200∧s.hi.lines.length≤1000
theorem Z6g {w:World}{col:Nat→Nat}{p N W c:Nat}{v:SV}{s:PS}(hm:Dk w col p v s)(hs:Qd W N s)(hN:N≤1800000)(ho:s.over=false)(hc:Jm (c:Int)):
 Calls Tryz.prog 18 #[.pointer (some ⟨p,0,none⟩),.string (Fx (Mu c))] w fun e w'=>∃u,e=.returned u∧Z6p w col p (Cw s (Fx (Mu c))) u w':=by
 have hsz:(Fx (Mu c)).size≤4:=by
  have:=Z4u c;rw[←Fi,Ly (Z5f (by have:=hc;unfold Jm at this;omega))]
  exact this
 obtain⟨q1,_,_,q4⟩:=hs.feed (b:=Fx (Mu c)) (by omega) (by omega)
 refine(Zh (b:=Fx (Mu c)) hm ho hs.pend hs.pend.lt (by omega) q4).mono ?_
 rintro e w' ⟨col',v',rfl,hm',ht',_⟩;have hm':Dk w' col' p v' (Cw s (Fx (Mu c))):=hm';obtain⟨E,n,k,xs,hvt,hO,hl,_,hD⟩:=hm'.told;obtain⟨S2,n2,k2,hvv,_⟩:=hm'.vis;have hev:EvR w' 0 (.slice E n k) (Cw s (Fx (Mu c))).told:=⟨E,n,k,xs,rfl,hO,hl,hD.here⟩;obtain⟨E',n',k',e2,h2⟩:=hev.v;injection e2 with x1 x2 x3;subst x1 x2 x3;have htx:(Cw s (Fx (Mu c))).tx.length≤200:=q1.inv.choose_spec.line.len;have hlh:(Cw s (Fx (Mu c))).hi.lines.length≤1000:=by have h1:=q1.inv.choose_spec.hist;have:=h1.len;have:=h1.hi;omega
 exact⟨_,rfl,col',v',E,n,k,S2,n2,k2,by rw[hvt,hvv],hm',ht',hl,h2,htx,hlh⟩
theorem Z4p {w:World}{most W key:Int}{a:ByteArray}(ha:a.size≤1048576):
 Calls Tryz.prog 5 #[.int .i64 most,.int .i64 W,.string a,.int .i64 key] w fun e w'=>e=.returned (.bool true)∧Am w w':=by
 have H1:Hid (∀wq,_):=A6 fun(wq:World)=>J1r (most:=most) (W:=W) (J4z (n:=1) (ts:=[a]) (Ap.new wq 9 #[.string a]) rfl (by decide)) (fun i hi hs=>by
  have e:i=0∨i=1:=by omega
  rcases e with rfl|rfl
  ·exact Au _
  ·show 0+(a.size+1)≤_;omega)
 have HP:Hid (∀wq,_):=A6 fun(wq:World)=>Z6d key wq
 have HA:Hid (∀wq,_):=A6 fun(wq:World)=>Z6j wq ha
 have HSz:=A6 ha;clear ha;go_enter Tryz.func5,Tryz.ntmps5
 go_wp2_with fail
 refine(Q1d w).mono ?_
 rintro e w1 ⟨rfl,he1⟩;have HX1:=A6 (he1.to_alloc (.cells #[.string a] 9));clear he1;go_wp2_with fail
 refine(H1.out w1).mono ?_
 rintro e w2 ⟨he2,hcase⟩;have HX2:=A6 (HX1.out.trans he2);clear he2 H1;rcases hcase with⟨_,hgo,p,col,v,E,S,rfl,hm,hs,hc,hh⟩|⟨_,rfl⟩
 case inr=>
  go_wp2_with fail
  refine(HP.out w2).mono ?_
  rintro e _ ⟨t,x,rfl,rfl,_⟩;go_wp2_with fail
  refine(HA.out w2).mono ?_
  rintro e w3 ⟨A3,q3,c3,y,z,rfl,_,he3⟩;have HX3:=A6 (HX2.out.trans he3);clear he3;go_wp2_with fail
  go_ret
  exact⟨rfl,HX3.out⟩
 obtain⟨⟨E1,n1,k1,rfl,_⟩,S1',q1,z1,rfl,_⟩:=hh.evs;have hpend:Z4d a.size (Ao a)=0→(Fb (Jt most W.toNat) [a] 1).pend=[]:=fun h=>by rw[Z2i];exact Z5x rfl h
 have hpt:Fl (Fb (Jt most W.toNat) [a] 1).part=true:=hs.inv.choose_spec.part;have htx:(Fb (Jt most W.toNat) [a] 1).tx.length≤200:=hs.inv.choose_spec.line.len;have hlh:(Fb (Jt most W.toNat) [a] 1).hi.lines.length≤1000:=by have h1:=hs.inv.choose_spec.hist;have:=h1.len;have:=h1.hi;omega
 have HPl:=A6 (Ba hpend (Ba hpt (Ba htx hlh)));have HM:=A6 hm;have HS:Hid (Qd W.toNat (szI [a] 1) (Fb (Jt most W.toNat) [a] 1)∧szI [a] 1≤1800000):=A6 ⟨hs,by show 0+(a.size+1)≤_;have:=HSz.out;omega⟩
 have HC:Hid (∀k,col k≠0→w.heap.size≤k):=A6 fun k hk=>Aq HX1.out.hsize (hc k hk)
 have HDom:Hid (∀k,col k≠0→k<w2.heap.size):=A6 hm.ses.dom;clear hm hs hc hh hpend hpt htx hlh hgo HX1;generalize Fb (Jt most W.toNat) [a] 1=s1 at*;go_wp2_with fail
 refine(HP.out w2).mono ?_
 rintro e _ ⟨t,x,rfl,rfl,hput⟩;have HPut:=A6 hput;clear hput HP;go_wp2_with fail
 refine(HA.out w2).mono ?_
 rintro e w3 ⟨A3,q3,c3,y,z,rfl,hz,he3⟩;have HE3:=A6 he3;have HZ:=A6 hz;clear he3 hz HA;by_cases hx0:x=0
 case neg=>
  have hxb:(x !=0)=true:=by simpa using hx0
  have hend:=HX2.out.trans HE3.out;go_wp2_with fail
  go_ret
  exact⟨rfl,hend⟩
 subst hx0;by_cases hz0:z=0
 case neg=>
  have hzb:(z !=0)=true:=by simpa using hz0
  have hend:=HX2.out.trans HE3.out;go_wp2_with fail
  go_ret
  exact⟨rfl,hend⟩
 subst hz0;obtain⟨c,hsc,rfl,rfl⟩:=HPut.out rfl;have HSc:=A6 hsc;have HPe:Hid (s1.pend=[]):=A6 (HPl.out.1 (by have:=HZ.out;omega))
 clear HPut hsc HZ;by_cases hk:(c:Int)=46
 case pos=>
  have hkb:((c:Int)==46)=true:=by simpa using hk
  have hend:=HX2.out.trans HE3.out;go_wp2_with fail
  go_ret
  exact⟨rfl,hend⟩
 have hkb:((c:Int)==46)=false:=by simpa using hk
 have HK:=A6 hk;have HL0:=A6 (Nl (HM.out.ext HE3.out) HPl.out.2.2.1 HPl.out.2.2.2);clear hk;go_wp2_with fail
 refine HL0.out.mono ?_
 rintro e w4 ⟨cs0,rfl,hL0,he4⟩;obtain⟨A4,n4,c4,Lx4,m4,d4,R4,f4,rfl,_,_⟩:=hL0.lit;have HE4:=A6 (HE3.out.trans he4);have hf1:=Z5a (.slice A4 n4 c4) f4 (.slice Lx4 m4 d4) R4 s1;clear hL0 he4 HL0 HE3 hkb;by_cases hov:s1.over=true
 case pos=>
  rw[hov]at hf1;have hend:=HX2.out.trans HE4.out;go_wp2_with fail
  go_ret
  exact⟨rfl,hend⟩
 have hov:s1.over=false:=by simpa using hov
 rw[hov]at hf1;have HOv:=A6 hov;have HL1:=A6 (Nl (HM.out.ext HE4.out) HPl.out.2.2.1 HPl.out.2.2.2);clear hov;go_wp2_with fail
 refine HL1.out.mono ?_
 rintro e w5 ⟨cs,rfl,hL,he5⟩;have HL:=A6 hL;have HE5:=A6 (HE4.out.trans he5);have HB4:Hid (w2.heap.size≤w4.heap.size):=A6 HE4.out.hsize;clear hL he5 HL1 hf1 HE4;go_upto_region 9 with(refine wpList_store_row rfl 43 (.tmp 18) (.tmp 66) rfl w5.heap.size cs rfl rfl 43 Kz (Ap.new w5 _ Kz) (S8 HL.out.size) (by rw[HL.out.size];rfl) HL.out.one ?_)
 change Code.wp _ _ _ _ ((w5.alloc (.cells Kz 43)).setRow w5.heap.size cs);obtain⟨hx6,hb6⟩:=Z4n w5 cs;have hL6:=HL.out.ext hx6;generalize (w5.alloc (.cells Kz 43)).setRow w5.heap.size cs=w6 at*;have HX6:=A6 (HX2.out.trans (HE5.out.trans hx6));have HB6:=A6 hb6;have HL6:=A6 hL6;have hm6:=HM.out.ext (HE5.out.trans hx6);have HFd:=A6 (Z6g hm6 HS.out.1 HS.out.2 HOv.out HSc.out);have hbell:Hid ((Cw s1 (Fx (Mu c))).told.length=1→(gV (Cw s1 (Fx (Mu c))).told 0).1=1→lnF (Cw s1 (Fx (Mu c)))=lnF s1):=A6 (Z5y HPl.out.2.1 HOv.out HK.out (by rw[HPe.out];exact Z6c HSc.out))
 have hg2:w2.heap.size≤w5.heap.size:=HE5.out.hsize;have hwg:w.heap.size≤w5.heap.size:=Aq HX2.out.hsize hg2;generalize w5.heap.size=g5 at*;generalize w4.heap.size=g4 at*;generalize Cw s1 (Fx (Mu c))=s2 at*;clear hx6 hb6 hL6 hm6 HL HE5 HM HX2 HPe HK HSc HPl HS HOv;go_wp2_with fail
 refine HFd.out.mono ?_
 rintro e w7 ⟨u,rfl,col7,v7,E7,n7,k7,S7,q7,z7,rfl,hm7,ht7,hl7,hev7,htx7,hlh7⟩;have HX7:Hid (Am w w7):=A6 (ht7.1.to_ext HX6.out fun k hk hM=>absurd (HC.out k hM.1) (by omega))
 have HB7:Hid (Ap w7 g5 43 cs):=A6 (ht7.1.blk HB6.out fun hn=>absurd (HDom.out g5 hn.1) (by omega))
 have HL7:Hid (Eo w7 g4 cs s1):=A6 (HL6.out.win fun k h1 h2=>ht7.1.block k h2 fun hn=>absurd (HDom.out k hn.1) (by have:=HB4.out;omega))
 have HM7:=A6 (Ba hm7 (Ba htx7 hlh7));clear hm7 htx7 hlh7 ht7 HB6 HL6 HX6 HFd HC HDom HB4;by_cases hn7:n7=1
 case neg=>
  have hnb:(((n7:Nat):Int) !=1)=true:=by simp;omega
  clear hev7 hl7 hbell;go_wp2_with fail
  go_ret
  exact⟨rfl,HX7.out⟩
 subst hn7;obtain⟨ad,Sx8,q8,z8,rfl,g0,_,_⟩:=hev7.at_ (k:=0) (by decide)
 have had:ad.add (0*2)=ad:=by first|exact Addr.add_zero ad|(obtain⟨b9,o9,e9⟩:=ad;cases e9<;>simp[Addr.add])
 rw[had]at g0;obtain⟨kd,hkd⟩:∃kd,kd=(gV s2.told 0).1:=⟨_,rfl⟩;rw[←hkd]at g0;have HBl:=A6 hbell.out;rw[←hkd]at HBl;clear hev7 hkd had hbell;by_cases hk1:kd=1
 case neg=>
  have hnb:(kd !=1)=true:=by simpa using hk1
  clear HBl hl7;go_wp2_with fail
  go_ret
  exact⟨rfl,HX7.out⟩
 subst hk1;have HLn:=A6 (HBl.out hl7 rfl);have HLk:=A6 (Nl HM7.out.1 HM7.out.2.1 HM7.out.2.2);clear HBl hl7;go_wp2_with fail
 refine HLk.out.mono ?_
 rintro e w8 ⟨ds,rfl,hK,he8⟩;have HK8:=A6 hK;have HE8:=A6 he8;clear hK he8 HLk g0;go_upto_region 13 with(refine wpList_store_row rfl 43 (.tmp 22) (.tmp 89) rfl w8.heap.size ds rfl rfl 43 Kz (Ap.new w8 _ Kz) (S8 HK8.out.size) (by rw[HK8.out.size];rfl) HK8.out.one ?_)
 change Code.wp _ _ _ _ ((w8.alloc (.cells Kz 43)).setRow w8.heap.size ds);obtain⟨hx9,hb9⟩:=Z4n w8 ds;have h:=HK8.out.ext hx9;have h':=HL7.out.ext (HE8.out.trans hx9);have hb8:=HB7.out.ext (HE8.out.trans hx9);have hx:=HX7.out.trans (HE8.out.trans hx9);generalize (w8.alloc (.cells Kz 43)).setRow w8.heap.size ds=W2 at*;generalize w8.heap.size=g8 at*;generalize w7.heap.size=g7 at*;have hln:=HLn.out;unfold lnF at hln;injection hln with z1 hln;injection hln with z2 hln;injection hln with z3 hln;injection hln with z4 hln;injection hln with z5 z6;obtain⟨v0,a0,A,n,c1,rfl,t1,_⟩:=h.text;obtain⟨v0',a0',A',n',c1',rfl,t1',_⟩:=h'.text;obtain⟨L,k,e1,a2,l1⟩:=h.lines;obtain⟨L',k',e1',a2',l1'⟩:=h'.lines;rw[z1]at t1;rw[z5]at l1;have hk:k'=k:=by have h1:=l1.lns.len;have h2:=l1'.lns.len;omega
 subst hk;have y1:=h.at_;have y2:=h.past;have y3:=h.where_;rw[z2]at y1;rw[z4]at y2;rw[z6]at y3;have r1:=h.regs';rw[z3]at r1;have HLine:Hid (∀wq,Am W2 wq→_):=A6 fun wq he=>J0w (a:=s1.at_) (t1.ints.ext he) (t1'.ints.ext he)
 have HLns:Hid (∀wq,Am W2 wq→_):=A6 fun wq he=>Q1u (l1.lns.ext he) (l1'.lns.ext he)
 have HRg:Hid (∀wq,Am W2 wq→_):=A6 fun wq he=>J0u (r1.ext he) (h'.regs'.ext he)
 have HX:=A6 hx;have HB1:Hid (∀wq,Am W2 wq→_):=A6 fun wq he=>hb9.ext he
 have HB2:Hid (∀wq,Am W2 wq→_):=A6 fun wq he=>hb8.ext he
 have HS:=A6 (Ba h.size h'.size);have HCell:Hid (∀wq,Am W2 wq→wq.cell? ⟨g8,0,none⟩=some (.slice A n c1)∧wq.cell? ⟨g5,0,none⟩=some (.slice A' n' c1')∧wq.cell? ⟨g8,1,none⟩=some (.int .i64 s1.at_)∧wq.cell? ⟨g5,1,none⟩=some (.int .i64 s1.at_)∧
  wq.cell? ⟨g8,37,none⟩=some (.int .i64 (s1.past.length:Int))∧wq.cell? ⟨g5,37,none⟩=some (.int .i64 (s1.past.length:Int))∧wq.cell? ⟨g8,38,none⟩=some (.slice L k' e1)∧wq.cell? ⟨g5,38,none⟩=some (.slice L' k' e1')∧
  wq.cell? ⟨g8,39,none⟩=some (.int .i64 s1.hi.at_)∧wq.cell? ⟨g5,39,none⟩=some (.int .i64 s1.hi.at_)):=A6 fun wq he=>
  ⟨he.cell ((hb9.cell 0).trans a0),he.cell ((hb8.cell 0).trans a0'),he.cell ((hb9.cell 1).trans y1),he.cell ((hb8.cell 1).trans h'.at_),he.cell ((hb9.cell 37).trans y2),he.cell ((hb8.cell 37).trans h'.past),
   he.cell ((hb9.cell 38).trans a2),he.cell ((hb8.cell 38).trans a2'),he.cell ((hb9.cell 39).trans y3),he.cell ((hb8.cell 39).trans h'.where_)⟩
 clear h h' hx hb9 hb8 t1 t1' r1 l1 l1' a0 a0' a2 a2' y1 y2 y3 z1 z2 z3 z4 z5 z6 hx9 HLn HK8 HL7 HB7 HE8 HX7 HM7;obtain⟨x0,y0,x1,y1,x37,y37,x38,y38,x39,y39⟩:=HCell.out W2 (Am.refl _);go_wp2_with fail
 refine(HLine.out W2 (Am.refl _)).mono ?_
 rintro e2 w10 ⟨rfl,he10⟩;clear x0 y0 x1 y1 x37 y37 x38 y38 x39 y39;obtain⟨x0,y0,x1,y1,x37,y37,x38,y38,x39,y39⟩:=HCell.out w10 he10;go_wp2_with fail
 refine(HLns.out w10 he10).mono ?_
 rintro e3 w11 ⟨rfl,he11⟩;have he:=he10.trans he11;clear x0 y0 x1 y1 x37 y37 x38 y38 x39 y39;obtain⟨x0,y0,x1,y1,x37,y37,x38,y38,x39,y39⟩:=HCell.out w11 he;go_wp2_with (first
  |(refine Mq (by kernel_rfl) 38 (.tmp 117) rfl g8 10 rfl 43 ds (ds.extract 10 37) (0,0) _ (HB1.out _ he) (Q8u HS.out.1) Tryz.underlying38 rfl (Q0n HS.out.1) ?_)
  |(refine Mq (by kernel_rfl) 38 (.tmp 119) rfl g5 10 rfl 43 cs (cs.extract 10 37) (0,0) _ (HB2.out _ he) (Q8u HS.out.2) Tryz.underlying38 rfl (Q0n HS.out.2) ?_))
 refine(HRg.out w11 he).mono ?_
 rintro e4 w12 ⟨rfl,he12⟩;clear x0 y0 x1 y1 x37 y37 x38 y38 x39 y39;go_wp2_with fail
 go_ret
 exact⟨rfl,HX.out.trans (he.trans he12)⟩
