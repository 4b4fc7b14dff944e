/-
  Part of the proof: ZVjQ.
-/
import Derived.Test.YtkaefdmhlmlhbaaGreatZVjL
import Derived.Laws.IdiomStrings
set_option maxRecDepth 100000
set_option maxHeartbeats 16000000
set_option linter.unusedVariables false
set_option linter.unusedSimpArgs false
namespace Go.Proofs.YtkaefdmhlmlhbaaGreat
open Go.RowKit
open _root_.Array renaming getElem?_eq_none→Ri
open _root_.Nat renaming le_trans→Aq
def BsV (w:World)(A:Option Addr)(n:Nat)(bs:List Nat):Prop:=bs.length=n∧∀k,k<n→∃ad,A=some ad∧w.cell? (ad.add k)=some (.int .u8 (gN bs k:Int))∧gN bs k<256
theorem BsV.ext {w w':World}{A:Option Addr}{n:Nat}{bs:List Nat}(h:BsV w A n bs)(he:Am w w'):BsV w' A n bs:=
 ⟨h.1,fun k hk=>by obtain⟨ad,h1,h2,h3⟩:=h.2 k hk;exact⟨ad,h1,he.cell h2,h3⟩⟩
theorem J4i (w:World)(s:ByteArray):∃c W,(convert 9 121 (.string s)).run Tryz.prog w=.ok (.slice (some ⟨w.heap.size,0,none⟩) s.size c) W∧BsV W (some ⟨w.heap.size,0,none⟩) s.size (Ao s)∧Am w W:=by
 refine⟨_,_,run_bytes_of_string w _ _ 5 s Tryz.underlying9 Tryz.underlying121 Tryz.underlying5,⟨Fi s,fun k hk=>⟨_,rfl,?_,?_⟩⟩,?_⟩
 ·have hk':k<s.data.size:=hk
  have e1:(⟨w.heap.size,0,none⟩:Addr).add k=⟨w.heap.size,k,none⟩:=by simp[Addr.add_lit]
  rw[e1];have h:=World.cell?_alloc_mark w.drew (bytesRow s (grownCap w s.size 0 5)) 5 ((bytesRow s (grownCap w s.size 0 5)).size,(bytesRow s (grownCap w s.size 0 5)).size+1) k;refine(show _=_ from h).trans ((bytesRow_at s _ k hk').trans ?_)
  unfold gN Ao;rw[List.getElem?_map,Array.getElem?_toList,Array.getElem?_eq_getElem hk']
  rfl
 ·have hk':k<s.data.size:=hk
  unfold gN Ao;rw[List.getElem?_map,Array.getElem?_toList,Array.getElem?_eq_getElem hk'];exact UInt8.toNat_lt _
 ·exact(Am.drew w).to_alloc _
theorem J7e {x:Nat}(hx:x<256)(w:World):
 Calls Tryz.prog 51 #[.int .i64 (x:Int),.int .u8 (x:Int)] w fun e w'=>e=.returned (.bool true)∧Am w w':=by
 have hw1:IntKind.i64.wrap (x:Int)=(x:Int):=IntWalk.i64_in _ (by omega)
 have b1:((x:Int)==(x:Int))=true:=by simp
 go_enter Tryz.func51,Tryz.ntmps51
 go_wp2_with fail
 go_ret
 exact⟨rfl,Am.refl _⟩
theorem J4k {A B:Option Addr}{n c d:Nat}{bs:List Nat}{w:World}(h:Bj w A n c (bs.map Int.ofNat))(h':BsV w B n bs):
 Calls Tryz.prog 50 #[.slice A n c,.slice B n d,.func (.func 51) #[] #[]] w fun e w'=>e=.returned (.bool true)∧Am w w':=by
 have hcm:=Nat.le_trans h.ncap h.nmax;unfold maxLen at hcm;have hne:((n:Int) !=(n:Int))=false:=by simp
 go_enter Tryz.func50,Tryz.ntmps50
 go_wp2_with fail
 go_loopw [17] (fun i wr=>∃k:Nat,k≤n∧i=.int .i64 k∧Am w wr) (fun i _=>n-(intOf i).toNat)
 case atStart=>exact⟨0,by omega,rfl,Am.refl _⟩
 case round=>
  obtain⟨k,hk,rfl,he⟩:=hrel;by_cases hlt:k<n
  ·obtain⟨ad,rfl,hc⟩:=(h.ext he).at_ hlt
   have hck:=hc k hlt;obtain⟨ad',rfl,hd,h256⟩:=(h'.ext he).2 k hlt;have hg:gI (bs.map Int.ofNat) k=(gN bs k:Int):=by
    unfold gI gN;rw[List.getElem?_map];have:k<bs.length:=by rw[h'.1];exact hlt
    rw[List.getElem?_eq_getElem this]
    rfl
   rw[hg]at hck;generalize gN bs k=x at*;have HC:=A6 (J7e h256 wr);have HE:=A6 he;clear hc hg he;go_wp2_with fail
   refine HC.out.mono ?_
   rintro e' w1 ⟨rfl,he1⟩;clear HC;go_wp2_with fail
   go_roundw
   case rel=>exact⟨k+1,by omega,by go_num,HE.out.trans he1⟩
   case measure=>simp[intOf];omega
  ·exact I107
theorem U5 {A:Option Addr}{n c:Nat}{s:ByteArray}{w:World}(h:Bj w A n c ((Ao s).map Int.ofNat)):
 Calls Tryz.prog 29 #[.slice A n c,.string s] w fun e w'=>e=.returned (.bool true)∧Am w w':=by
 obtain⟨d,W,hconv,hB,hE⟩:=J4i w s;have hn:s.size=n:=by rw[←h.len,List.length_map,Fi]
 rw[hn]at hconv hB;have HC:=A6 (J4k (d:=d) (h.ext hE) hB);have HX:=A6 hE;clear h hB hE hn;go_enter Tryz.func29,Tryz.ntmps29
 go_wp2_with fail
 refine HC.out.mono ?_
 rintro e' w1 ⟨rfl,he1⟩;have HX1:=A6 (HX.out.trans he1);clear HC he1;go_wp2_with fail
 go_ret
 exact⟨rfl,HX1.out⟩
def Z3 (T:Value)(f:Nat→Value)(Ls R:Value)(s:PS):Array Value:=#[T,.int .i64 s.at_,.int .i64 s.mode,.int .i64 s.part.first,.int .i64 s.part.reg,.int .i64 s.part.op,.int .i64 s.part.second,.int .i64 s.part.wait,.int .i64 s.fk,.int .i64 s.fa,
 f 0,f 1,f 2,f 3,f 4,f 5,f 6,f 7,f 8,f 9,f 10,f 11,f 12,f 13,f 14,f 15,f 16,f 17,f 18,f 19,f 20,f 21,f 22,f 23,f 24,f 25,f 26,.int .i64 (s.past.length:Int),Ls,.int .i64 s.hi.at_,.bool s.over,R,.int .i64 s.rat,.int .i64 s.off]
theorem J8a (T:Value)(f:Nat→Value)(Ls R:Value)(s:PS)(i:Nat)(hi:i<27):(Z3 T f Ls R s)[10+i]? = some (f i):=by
 exact I4
theorem Eo.lit {w:World}{b:Nat}{cs:Array Value}{s:PS}(h:Eo w b cs s):∃A n c L m d R f,cs=Z3 (.slice A n c) f (.slice L m d) R s∧Bj w A n c s.tx∧s.hi.lines.length=m:=by
 obtain⟨v0,a0,A,n,c,rfl,t1,_⟩:=h.text;obtain⟨v1,a1,_⟩:=h.row;obtain⟨L,m,d,a2,l1⟩:=h.lines;obtain⟨p3,p4,p5,p6,p7⟩:=h.part;obtain⟨f8,f9⟩:=h.find;refine⟨A,n,c,L,m,d,v1,fun i=>cs[10+i]?.getD undef,?_,t1.ints,l1.lns.len⟩
 apply Array.ext_getElem?
 intro j;by_cases hj:j<44
 ·by_cases hmid:10≤j∧j<37
  ·have e:=J8a (.slice A n c) (fun i=>cs[10+i]?.getD undef) (.slice L m d) v1 s (j-10) (by omega)
   rw[show 10+(j-10)=j by omega]at e
   rw[e];obtain⟨v,h1,_⟩:=h.regs (j-10) (by omega)
   rw[show 10+(j-10)=j by omega]at h1
   rw[h1]
   rfl
  ·have hc:j=0∨j=1∨j=2∨j=3∨j=4∨j=5∨j=6∨j=7∨j=8∨j=9∨j=37∨j=38∨j=39∨j=40∨j=41∨j=42∨j=43:=by omega
   rcases hc with rfl|rfl|rfl|rfl|rfl|rfl|rfl|rfl|rfl|rfl|rfl|rfl|rfl|rfl|rfl|rfl|rfl
   ·exact a0
   ·exact h.at_
   ·exact h.mode
   ·exact p3
   ·exact p4
   ·exact p5
   ·exact p6
   ·exact p7
   ·exact f8
   ·exact f9
   ·exact h.past
   ·exact a2
   ·exact h.where_
   ·exact h.over
   ·exact a1
   ·exact h.rat
   ·exact h.off
 ·rw[Ri (by rw[h.size];omega),Ri (show(Z3 _ _ _ _ _).size≤j from(show 44≤j by omega))]
def S0:ByteArray:=⟨#[97,98,32,99,100,27,48,100,119]⟩
def S1:ByteArray:=⟨#[117]⟩
def S2:ByteArray:=⟨#[46,13]⟩
theorem Z0v:Jt 5 10=J6 c0 0 (List.replicate 10 32) 0 []:=rfl
theorem m0:Da [] (Ao S0)=⟨[],[97,98,32,99,100,27,48,100,119]⟩:=by kernel_rfl
theorem m1:Da [] (Ao S1)=⟨[],[117]⟩:=by kernel_rfl
theorem m2:Da [] (Ao S2)=⟨[],[46,13]⟩:=by kernel_rfl
theorem Q0t {c c':Cr}{S:ByteArray}{ks:List Int}(hm:Da [] (Ao S)=⟨[],ks⟩)(h:Fo { c with told:=[] } ks c')(o:Int)(r:List Int)(ra:Int)(vi:List Int):∃o' r' ra' vi',Cw (J6 c o r ra vi) S=J6 c' o' r' ra' vi':=by
 have e1:En (J6 c o r ra vi) []=J6 { c with told:=[] } o r ra []:=rfl;have e2:Cw (J6 c o r ra vi) S=Cc (En (J6 c o r ra vi) []) ks:=by
  unfold Cw;rw[show(J6 c o r ra vi).pend=[]from rfl,hm]
 rw[e2,e1];exact h o r ra []
theorem Z3g:∃o r ra vi,Fb (Jt 5 10) [S0] 1=J6 c9 o r ra vi:=by
 have e:Fb (Jt 5 10) [S0] 1=Cw (Jt 5 10) S0:=by unfold Fb;simp only[List.take_succ_cons,List.take_zero,List.foldl_cons,List.foldl_nil]
 rw[e,Z0v];exact Q0t (c:=c0) m0 Q9k _ _ _ _
theorem Z3b:Qh 5 10∧∀j,j<1→Sp (Jt 5 10) [S0] j:=by
 refine⟨by unfold Qh;decide,fun j hj=>?_⟩
 obtain rfl:j=0:=by omega
 exact⟨by unfold Fb;simp only[List.take_zero,List.foldl_nil];rfl,show S0.size≤4096 by decide⟩
theorem Uz (A:Option Addr)(n c:Nat)(f:Nat→Value)(Ls R:Value)(s:PS)(u:World):(Instr.field 43 (.agg (Z3 (.slice A n c) f Ls R s)) 0).run Tryz.prog u=.ok (.agg #[.slice A n c,.int .i64 s.at_]) u:=by kernel_rfl
theorem J1a (T:Value)(f:Nat→Value)(L:Option Addr)(m d:Nat)(R:Value)(s:PS)(u:World):(Instr.field 43 (.agg (Z3 T f (.slice L m d) R s)) 6).run Tryz.prog u=.ok (.slice L m d) u:=by kernel_rfl
theorem Uy (A:Option Addr)(n c:Nat)(x:Int)(u:World):(Instr.field 32 (.agg #[.slice A n c,.int .i64 x]) 0).run Tryz.prog u=.ok (.slice A n c) u:=by kernel_rfl
theorem X3 {w:World}{col:Nat→Nat}{p N:Nat}{v:SV}{c c':Cr}{S:ByteArray}{ks:List Int}{o ra:Int}{r vi:List Int}(hm:Dk w col p v (J6 c o r ra vi))(hs:Qd 10 N (J6 c o r ra vi))(hN:N≤1900000)(hS:S.size≤4096)(hmc:Da [] (Ao S)=⟨[],ks⟩)(hst:Fo { c with told:=[] } ks c'):
 Calls Tryz.prog 18 #[.pointer (some ⟨p,0,none⟩),.string S] w fun e w'=>∃col' v' E n k S2 n2 k2 o' r' ra' vi',e=.returned (.tuple #[.slice E n k,.slice S2 n2 k2,.int .i64 0])∧Dk w' col' p v' (J6 c' o' r' ra' vi')∧Qd 10 (N+(S.size+1)) (J6 c' o' r' ra' vi')∧Lb w col w' col'∧c'.told.length=n∧EvV w' E n k c'.told:=by
 obtain⟨q1,_,_,q4⟩:=hs.feed (b:=S) hN hS;obtain⟨o',r',ra',vi',e1⟩:=Q0t hmc hst o r ra vi;refine(Zh (b:=S) hm rfl hs.pend hs.pend.lt hS q4).mono ?_
 rintro e w' ⟨col',v',rfl,hm',ht',_⟩;rw[show Cc (En (J6 c o r ra vi) (Da (J6 c o r ra vi).pend (Ao S)).ah) (Da (J6 c o r ra vi).pend (Ao S)).out=J6 c' o' r' ra' vi' from e1]at hm'
 rw[e1]at q1;obtain⟨E,n,k,xs,hvt,hO,hl,_,hD⟩:=hm'.told;obtain⟨S2,n2,k2,hvv,_⟩:=hm'.vis;have hev:EvR w' 0 (.slice E n k) c'.told:=⟨E,n,k,xs,rfl,hO,hl,hD.here⟩;obtain⟨E',n',k',e2,h2⟩:=hev.v;injection e2 with x1 x2 x3;subst x1 x2 x3;exact⟨col',v',E,n,k,S2,n2,k2,o',r',ra',vi',by rw[hvt,hvv],hm',q1,ht',hl,h2⟩
theorem Q1d (w:World):Calls Tryz.prog 9 #[] w fun e w'=>e=.returned (.bool true)∧Am w w':=by
 have hxa:=Am.alloc w (.cells #[.string S0] 9);have hrd:Rd (w.alloc (.cells #[.string S0] 9)) 1 (some ⟨w.heap.size,0,none⟩) 1 1 ([S0].map Value.string):=by
  refine⟨rfl,Nat.le_refl _,by unfold maxLen;omega,fun _=>⟨_,rfl,fun j u hj=>?_⟩⟩
  have e1:(⟨w.heap.size,0,none⟩:Addr).add j=⟨w.heap.size,j,none⟩:=by simp[Addr.add_lit]
  rw[e1,(Ap.new w 9 #[.string S0]).cell j]
  simpa using hj
 have hF:=J1r (most:=5) (W:=10) hrd (fun i hi _=>Aq (Q9q [S0] hi) (show szI [S0] 1≤1900000 from by unfold szI gB;decide))
 rw[show(10:Int).toNat=10 from rfl]at hF
 have HF:=A6 hF;clear hF;have HXA:=A6 hxa;clear hrd hxa;go_enter Tryz.func9,Tryz.ntmps9
 go_wp2_with fail
 refine HF.out.mono ?_
 rintro e w1 ⟨he1,⟨_,_,hok⟩|⟨hno,_⟩⟩
 rotate_left 1
 ·exact absurd Z3b hno
 obtain⟨p,col,v,E,S,rfl,hm,hs,hc,hh⟩:=hok;obtain⟨o,r,ra,vi,hrun⟩:=Z3g;have hev:evI (Jt 5 10) [S0] 1=[]:=by
  show []++(Fb (Jt 5 10) [S0] 1).told=[]
  rw[hrun];rfl
 rw[hrun]at hm hs;obtain⟨A1,n1,k1,xs,F,rfl,_,hn1,_⟩:=hh.ev;obtain⟨A2,n2,k2,rfl,_⟩:=hh.vi;rw[hev]at hn1;have hn1:n1=0:=hn1.symm;subst hn1;have HX1:=A6 (HXA.out.trans he1);have HM1:=A6 hm;have HS1:=A6 hs;have HC1:Hid (∀k,col k≠0→w.heap.size≤k):=A6 fun k hk=>Aq HXA.out.hsize (hc k hk)
 have HL1:=A6 (Nl hm (show([99,100]:List Int).length≤200 by decide) (show([]:List (List Int)).length≤1000 by decide))
 clear hm hs hc hh he1 HF hrun hev;go_wp2_with fail
 refine HL1.out.mono ?_
 rintro e w2 ⟨cs,rfl,hL,he2⟩;obtain⟨A,n,c,L,m,d,R,f,rfl,hI,hml⟩:=hL.lit;have HSm:=A6 (U5 (s:=⟨#[99,100]⟩) (show Bj w2 A n c ((Ao ⟨#[99,100]⟩).map Int.ofNat)from hI))
 have HE2:=A6 he2;have hf1:=Uz A n c f (.slice L m d) R (J6 c9 o r ra vi);have hf2:=Uy A n c (J6 c9 o r ra vi).at_;clear hL hI hml he2 HL1;go_wp2_with fail
 refine HSm.out.mono ?_
 rintro e w3 ⟨rfl,he3⟩;have HFd:=A6 (X3 (HM1.out.ext (HE2.out.trans he3)) HS1.out (by decide) (show S1.size≤4096 by decide) m1 Q9j)
 have HX3:=A6 (HX1.out.trans (HE2.out.trans he3));clear hf1 hf2 he3 HSm HE2;go_wp2_with fail
 refine HFd.out.mono ?_
 rintro e w4 ⟨col4,v4,E4,n4,k4,F4,m4,l4,o4,r4,ra4,vi4,rfl,hm4,hs4,ht4,hl4,_⟩;have hl4:n4=0:=hl4.symm;subst hl4;have HC4:Hid (∀k,col4 k≠0→w.heap.size≤k):=A6 fun k hk=>by
  rcases Nat.lt_or_ge k w3.heap.size with h1|h1
  ·exact HC1.out k (ht4.2 k h1 hk)
  ·exact Aq HX3.out.hsize h1
 have HX4:Hid (Am w w4):=A6 (ht4.1.to_ext HX3.out fun k hk hM=>absurd (HC1.out k hM.1) (by omega))
 have HM4:=A6 hm4;have HS4:=A6 hs4;have HL4:=A6 (Nl hm4 (show Pb.length≤200 by decide) (show([]:List (List Int)).length≤1000 by decide))
 clear hm4 hs4 ht4 HFd HM1 HS1 HC1 HX1;go_wp2_with fail
 refine HL4.out.mono ?_
 rintro e w5 ⟨cs5,rfl,hL5,he5⟩;obtain⟨A5,n5,c5',L5,m5,d5,R5,f5,rfl,hI5,_⟩:=hL5.lit;have HSm5:=A6 (U5 (s:=⟨#[97,98,32,99,100]⟩) (show Bj w5 A5 n5 c5' ((Ao ⟨#[97,98,32,99,100]⟩).map Int.ofNat)from hI5))
 have HE5:=A6 he5;have hf1:=Uz A5 n5 c5' f5 (.slice L5 m5 d5) R5 (J6 d1 o4 r4 ra4 vi4);have hf2:=Uy A5 n5 c5' (J6 d1 o4 r4 ra4 vi4).at_;clear hL5 hI5 he5 HL4;go_wp2_with fail
 refine HSm5.out.mono ?_
 rintro e w6 ⟨rfl,he6⟩;have HFd6:=A6 (X3 (HM4.out.ext (HE5.out.trans he6)) HS4.out (by decide) (show S2.size≤4096 by decide) m2 Q9i)
 have HX6:=A6 (HX4.out.trans (HE5.out.trans he6));clear hf1 hf2 he6 HSm5 HE5;go_wp2_with fail
 refine HFd6.out.mono ?_
 rintro e w7 ⟨col7,v7,E7,n7,k7,F7,m7,l7,o7,r7,ra7,vi7,rfl,hm7,hs7,ht7,hl7,hev7⟩;have hl7:n7=1:=hl7.symm;subst hl7;obtain⟨ad,S7,q7,z7,rfl,g0,g1,gI7⟩:=hev7.at_ (k:=0) (by decide)
 have HX7:Hid (Am w w7):=A6 (ht7.1.to_ext HX6.out fun k hk hM=>absurd (HC4.out k hM.1) (by omega))
 have HL7:Hid (∀wq,Am w7 wq→_):=A6 fun wq he=>Nl (hm7.ext he) (show([]:List Int).length≤200 by decide) (show([[99,100]]:List (List Int)).length≤1000 by decide)
 have HSm7:=A6 (U5 (s:=⟨#[99,100]⟩) (show Bj w7 S7 q7 z7 ((Ao ⟨#[99,100]⟩).map Int.ofNat)from gI7))
 have had:ad.add (0*2)=ad:=by first|exact Addr.add_zero ad|(obtain⟨b9,o9,e9⟩:=ad;cases e9<;>simp[Addr.add])
 rw[had]at g0 g1;have g0:w7.cell? ad=some (.int .i64 2):=g0;clear hm7 hs7 ht7 hev7 gI7 HFd6 HM4 HS4 HC4 HX4;clear hl7;go_wp2_with fail
 refine HSm7.out.mono ?_
 rintro e w8 ⟨rfl,he8⟩;have HE8:=A6 he8;clear g0 g1 he8 HSm7;go_wp2_with fail
 refine(HL7.out w8 HE8.out).mono ?_
 rintro e w9 ⟨cs9,rfl,hL9,he9⟩;obtain⟨A9,n9,c9',L9,m9,d9,R9,f9,rfl,_,hml9⟩:=hL9.lit;have hml9:m9=1:=hml9.symm;subst hml9;have hf1:=J1a (.slice A9 n9 c9') f9 L9 1 d9 R9 (J6 d3 o7 r7 ra7 vi7);have HX9:=A6 (HX7.out.trans (HE8.out.trans he9));clear hL9 he9 HL7;go_wp2_with fail
 go_ret
 exact⟨rfl,HX9.out⟩
