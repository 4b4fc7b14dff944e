/-
  Part ZVjQ.
-/
import Derived.Test.YtkaefdmhlmlhbaaGreatZKeyO
import Derived.Test.YtkaefdmhlmlhbaaGreatZVjM
import Derived.Laws.IdiomStrings
set_option maxRecDepth 100000
set_option maxHeartbeats 16000000
set_option linter.unusedVariables false
set_option linter.unusedSimpArgs false
namespace Go.Proofs.YtkaefdmhlmlhbaaGreat
open Go.RowKit
open _root_.Array renaming getElem?_eq_none→Sb
open _root_.Nat renaming le_refl→Aj,le_trans→Ar,zero_le→Aw
open _root_.And renaming intro→Bb
open _root_.List renaming getElem?_cons_succ→Ag,getElem?_cons_zero→Af,getElem?_toArray→Ah
section
variable {w:World}{col:Nat→Nat}{A:Option Addr}{ks:List Int}{cs vs:Array Value}{s:PS}{b:Nat}
def BsV (w:World)(A:Option Addr)(n:Nat)(bs:List Nat):Prop:=bs.length=n∧∀k,k<n→∃ad,A=some ad∧w.cell? (ad.add k)=some (.int .u8 (gN bs k:Int))∧gN bs k<256
theorem BsV.ext {w w':World}{n:Nat}{bs:List Nat}(h:BsV w A n bs)(he:An w w'):BsV w' A n bs:=
 ⟨h.1,fun k hk=>by obtain⟨ad,h1,h2,h3⟩:=h.2 k hk;exact⟨ad,h1,he.cell h2,h3⟩⟩
theorem fT (w:World)(s:ByteArray):∃c W,(convert 9 121 (.string s)).run Tryz.prog w=.ok (.slice (some ⟨w.heap.size,0,none⟩) s.size c) W∧BsV W (some ⟨w.heap.size,0,none⟩) s.size (Ao s)∧An w W:=by
 refine⟨_,_,run_bytes_of_string w _ _ 5 s Tryz.underlying9 Tryz.underlying121 Tryz.underlying5,⟨Dx s,fun k hk=>⟨_,rfl,?_,?_⟩⟩,?_⟩
 ·have hk':k<s.data.size:=hk
  have e1:(⟨w.heap.size,0,none⟩:Addr).add k=⟨w.heap.size,k,none⟩:=by simp[Addr.add_lit]
  rw[e1];have h:=World.cell?_alloc_mark w.drew (bytesRow s (grownCap w s.size 0 5)) 5 ((bytesRow s (grownCap w s.size 0 5)).size,(bytesRow s (grownCap w s.size 0 5)).size+1) k;refine(show _=_ from h).trans ((bytesRow_at s _ k hk').trans ?_)
  unfold gN Ao;rw[List.getElem?_map,Array.getElem?_toList,Array.getElem?_eq_getElem hk']
  rfl
 ·have hk':k<s.data.size:=hk
  unfold gN Ao;rw[List.getElem?_map,Array.getElem?_toList,Array.getElem?_eq_getElem hk'];exact UInt8.toNat_lt _
 ·exact(An.drew w).to_alloc _
theorem kB {x:Nat}(hx:x<256)(w:World):
 Calls Tryz.prog 51 #[.int .i64 (x:Int),.int .u8 (x:Int)] w fun e w'=>e=.returned (.bool true)∧An w w':=by
 have hw1:IntKind.i64.wrap (x:Int)=(x:Int):=IntWalk.i64_in _ (by omega)
 have b1:((x:Int)==(x:Int))=true:=by simp
 go_enter Tryz.func51,Tryz.ntmps51
 go_wp2_with fail
 go_ret
 exact⟨rfl,An.refl _⟩
theorem fV {A B:Option Addr}{n c d:Nat}{bs:List Nat}(h:Bl w A n c (bs.map Int.ofNat))(h':BsV w B n bs):
 Calls Tryz.prog 50 #[.slice A n c,.slice B n d,.func (.func 51) #[] #[]] w fun e w'=>e=.returned (.bool true)∧An w w':=by
 have hcm:=Nat.le_trans h.ncap h.nmax;unfold maxLen at hcm;have hne:((n:Int) !=(n:Int))=false:=by simp
 go_enter Tryz.func50,Tryz.ntmps50
 go_wp2_with fail
 go_loopw [17] (fun i wr=>∃k:Nat,k≤n∧i=.int .i64 k∧An w wr) (fun i _=>n-(intOf i).toNat)
 case atStart=>exact⟨0,by omega,rfl,An.refl _⟩
 case round=>
  obtain⟨k,hk,rfl,he⟩:=hrel;by_cases hlt:k<n
  ·obtain⟨ad,rfl,hc⟩:=(h.ext he).at_ hlt
   have hck:=hc k hlt;obtain⟨ad',rfl,hd,h256⟩:=(h'.ext he).2 k hlt;have hg:gI (bs.map Int.ofNat) k=(gN bs k:Int):=by
    unfold gI gN;rw[List.getElem?_map];have:k<bs.length:=by rw[h'.1];exact hlt
    rw[List.getElem?_eq_getElem this]
    rfl
   rw[hg]at hck;generalize gN bs k=x at*;have HC:=A6 (kB h256 wr);have HE:=A6 he;clear hc hg he;go_wp2_with fail
   refine HC.out.mono ?_
   rintro e' w1 ⟨rfl,he1⟩;clear HC;go_wp2_with fail
   go_roundw
   case rel=>exact⟨k+1,by omega,by go_num,HE.out.trans he1⟩
   case measure=>simp[intOf];omega
  ·obtain rfl:k=n:=by omega
   go_wp2_with fail
   go_ret
   exact⟨rfl,he⟩
theorem Uw {n c:Nat}{s:ByteArray}(h:Bl w A n c ((Ao s).map Int.ofNat)):
 Calls Tryz.prog 29 #[.slice A n c,.string s] w fun e w'=>e=.returned (.bool true)∧An w w':=by
 obtain⟨d,W,hconv,hB,hE⟩:=fT w s;have hn:s.size=n:=by rw[←h.len,List.length_map,Dx]
 rw[hn]at hconv hB;have HC:=A6 (fV (d:=d) (h.ext hE) hB);have HX:=A6 hE;clear h hB hE hn;go_enter Tryz.func29,Tryz.ntmps29
 go_wp2_with fail
 refine HC.out.mono ?_
 rintro e' w1 ⟨rfl,he1⟩;have HX1:=A6 (HX.out.trans he1);clear HC he1;go_wp2_with fail
 go_ret
 exact⟨rfl,HX1.out⟩
def Zy (T:Value)(f:Nat→Value)(Ls R:Value)(s:PS):Array Value:=#[T,.int .i64 s.at_,.int .i64 s.mode,.int .i64 s.part.first,.int .i64 s.part.reg,.int .i64 s.part.op,.int .i64 s.part.second,.int .i64 s.part.wait,.int .i64 s.fk,.int .i64 s.fa,
 f 0,f 1,f 2,f 3,f 4,f 5,f 6,f 7,f 8,f 9,f 10,f 11,f 12,f 13,f 14,f 15,f 16,f 17,f 18,f 19,f 20,f 21,f 22,f 23,f 24,f 25,f 26,.int .i64 (s.past.length:Int),Ls,.int .i64 s.hi.at_,.bool s.over,R,.int .i64 s.rat,.int .i64 s.off]
theorem lA (T:Value)(f:Nat→Value)(Ls R:Value)(s:PS)(i:Nat)(hi:i<27):(Zy T f Ls R s)[10+i]? = some (f i):=by
 exact I1
theorem Fe.lit (h:Fe w b cs s):∃A n c L m d R f,cs=Zy (.slice A n c) f (.slice L m d) R s∧Bl w A n c s.tx∧s.hi.lines.length=m:=by
 obtain⟨v0,a0,A,n,c,rfl,t1,_⟩:=h.text;obtain⟨v1,a1,_⟩:=h.row;obtain⟨L,m,d,a2,l1⟩:=h.lines;obtain⟨p3,p4,p5,p6,p7⟩:=h.part;obtain⟨f8,f9⟩:=h.find;refine⟨A,n,c,L,m,d,v1,fun i=>cs[10+i]?.getD undef,?_,t1.ints,l1.lns.len⟩
 apply Array.ext_getElem?
 intro j;by_cases hj:j<44
 ·by_cases hmid:10≤j∧j<37
  ·have e:=lA (.slice A n c) (fun i=>cs[10+i]?.getD undef) (.slice L m d) v1 s (j-10) (by omega)
   rw[show 10+(j-10)=j by omega]at e
   rw[e];obtain⟨v,h1,_⟩:=h.regs (j-10) (by omega)
   rw[show 10+(j-10)=j by omega]at h1
   rw[h1]
   rfl
  ·have hc:j=0∨j=1∨j=2∨j=3∨j=4∨j=5∨j=6∨j=7∨j=8∨j=9∨j=37∨j=38∨j=39∨j=40∨j=41∨j=42∨j=43:=by omega
   rcases hc with rfl|rfl|rfl|rfl|rfl|rfl|rfl|rfl|rfl|rfl|rfl|rfl|rfl|rfl|rfl|rfl|rfl
   ·exact a0
   ·exact h.at_
   ·exact h.mode
   ·exact p3
   ·exact p4
   ·exact p5
   ·exact p6
   ·exact p7
   ·exact f8
   ·exact f9
   ·exact h.past
   ·exact a2
   ·exact h.where_
   ·exact h.over
   ·exact a1
   ·exact h.rat
   ·exact h.off
 ·rw[Sb (by rw[h.size];omega),Sb (show(Zy _ _ _ _ _).size≤j from(show 44≤j by omega))]
def S0:ByteArray:=⟨#[97,98,32,99,100,27,48,100,119]⟩
def S1:ByteArray:=⟨#[117]⟩
def S2:ByteArray:=⟨#[46,13]⟩
theorem zU:Jj 5 10=Jh c0 0 (List.replicate 10 32) 0 []:=rfl
theorem m0:F3 [] (Ao S0)=⟨[],[97,98,32,99,100,27,48,100,119]⟩:=by kernel_rfl
theorem m1:F3 [] (Ao S1)=⟨[],[117]⟩:=by kernel_rfl
theorem m2:F3 [] (Ao S2)=⟨[],[46,13]⟩:=by kernel_rfl
theorem oA {c c':Cr}{S:ByteArray}(hm:F3 [] (Ao S)=⟨[],ks⟩)(h:Fv { c with told:=[] } ks c')(o:Int)(r:List Int)(ra:Int)(vi:List Int):∃o' r' ra' vi',Ky (Jh c o r ra vi) S=Jh c' o' r' ra' vi':=by
 have e1:Gx (Jh c o r ra vi) []=Jh { c with told:=[] } o r ra []:=rfl;have e2:Ky (Jh c o r ra vi) S=C8 (Gx (Jh c o r ra vi) []) ks:=by
  unfold Ky;rw[show(Jh c o r ra vi).pend=[]from rfl,hm]
 rw[e2,e1];exact h o r ra []
theorem J2k:∃o r ra vi,J3 (Jj 5 10) [S0] 1=Jh c9 o r ra vi:=by
 have e:J3 (Jj 5 10) [S0] 1=Ky (Jj 5 10) S0:=by unfold J3;simp only[List.take_succ_cons,List.take_zero,List.foldl_cons,List.foldl_nil]
 rw[e,zU];exact oA (c:=c0) m0 yK _ _ _ _
theorem J2d:Ra 5 10∧∀j,j<1→Te (Jj 5 10) [S0] j:=by
 refine⟨by unfold Ra;decide,fun j hj=>?_⟩
 obtain rfl:j=0:=by omega
 exact⟨by unfold J3;simp only[List.take_zero,List.foldl_nil];rfl,show S0.size≤4096 by decide⟩
theorem Vw (A:Option Addr)(n c:Nat)(f:Nat→Value)(Ls R:Value)(s:PS)(u:World):(Instr.field 43 (.agg (Zy (.slice A n c) f Ls R s)) 0).run Tryz.prog u=.ok (.agg #[.slice A n c,.int .i64 s.at_]) u:=by kernel_rfl
theorem cF (T:Value)(f:Nat→Value)(L:Option Addr)(m d:Nat)(R:Value)(s:PS)(u:World):(Instr.field 43 (.agg (Zy T f (.slice L m d) R s)) 6).run Tryz.prog u=.ok (.slice L m d) u:=by kernel_rfl
theorem Vv (A:Option Addr)(n c:Nat)(x:Int)(u:World):(Instr.field 32 (.agg #[.slice A n c,.int .i64 x]) 0).run Tryz.prog u=.ok (.slice A n c) u:=by kernel_rfl
theorem Y2 {p N:Nat}{v:SV}{c c':Cr}{S:ByteArray}{o ra:Int}{r vi:List Int}(hm:Di w col p v (Jh c o r ra vi))(hs:Nv 10 N (Jh c o r ra vi))(hN:N≤1900000)(hS:S.size≤4096)(hmc:F3 [] (Ao S)=⟨[],ks⟩)(hst:Fv { c with told:=[] } ks c'):
 Calls Tryz.prog 18 #[.pointer (some ⟨p,0,none⟩),.string S] w fun e w'=>∃col' v' E n k S2 n2 k2 o' r' ra' vi',e=.returned (.tuple #[.slice E n k,.slice S2 n2 k2,.int .i64 0])∧Di w' col' p v' (Jh c' o' r' ra' vi')∧Nv 10 (N+(S.size+1)) (Jh c' o' r' ra' vi')∧Li w col w' col'∧c'.told.length=n∧tM w' E n k c'.told:=by
 obtain⟨q1,_,_,q4⟩:=hs.feed (b:=S) hN hS;obtain⟨o',r',ra',vi',e1⟩:=oA hmc hst o r ra vi;refine(Uu (b:=S) hm rfl hs.pend hs.pend.lt hS q4).mono ?_
 rintro e w' ⟨col',v',rfl,hm',ht',_⟩;rw[show C8 (Gx (Jh c o r ra vi) (F3 (Jh c o r ra vi).pend (Ao S)).ah) (F3 (Jh c o r ra vi).pend (Ao S)).out=Jh c' o' r' ra' vi' from e1]at hm'
 rw[e1]at q1;obtain⟨E,n,k,xs,hvt,hO,hl,_,hD⟩:=hm'.told;obtain⟨S2,n2,k2,hvv,_⟩:=hm'.vis;have hev:EvR w' 0 (.slice E n k) c'.told:=⟨E,n,k,xs,rfl,hO,hl,hD.here⟩;obtain⟨E',n',k',e2,h2⟩:=hev.v;injection e2 with x1 x2 x3;subst x1 x2 x3;exact⟨col',v',E,n,k,S2,n2,k2,o',r',ra',vi',by rw[hvt,hvv],hm',q1,ht',hl,h2⟩
theorem oM (w:World):Calls Tryz.prog 9 #[] w fun e w'=>e=.returned (.bool true)∧An w w':=by
 have hxa:=An.alloc w (.cells #[.string S0] 9);have hrd:Rd (w.alloc (.cells #[.string S0] 9)) 1 (some ⟨w.heap.size,0,none⟩) 1 1 ([S0].map Value.string):=by
  refine⟨rfl,Nat.le_refl _,by unfold maxLen;omega,fun _=>⟨_,rfl,fun j u hj=>?_⟩⟩
  have e1:(⟨w.heap.size,0,none⟩:Addr).add j=⟨w.heap.size,j,none⟩:=by simp[Addr.add_lit]
  rw[e1,(Aq.new w 9 #[.string S0]).cell j]
  simpa using hj
 have hF:=oC (most:=5) (W:=10) hrd (fun i hi _=>Ar (yP [S0] hi) (show Zn [S0] 1≤1900000 from by unfold Zn gB;decide))
 rw[show(10:Int).toNat=10 from rfl]at hF
 have HF:=A6 hF;clear hF;have HXA:=A6 hxa;clear hrd hxa;go_enter Tryz.func9,Tryz.ntmps9
 go_wp2_with fail
 refine HF.out.mono ?_
 rintro e w1 ⟨he1,⟨_,_,hok⟩|⟨hno,_⟩⟩
 rotate_left 1
 ·exact absurd J2d hno
 obtain⟨p,col,v,E,S,rfl,hm,hs,hc,hh⟩:=hok;obtain⟨o,r,ra,vi,hrun⟩:=J2k;have hev:tB (Jj 5 10) [S0] 1=[]:=by
  show []++(J3 (Jj 5 10) [S0] 1).told=[]
  rw[hrun];rfl
 rw[hrun]at hm hs;obtain⟨A1,n1,k1,xs,F,rfl,_,hn1,_⟩:=hh.ev;obtain⟨A2,n2,k2,rfl,_⟩:=hh.vi;rw[hev]at hn1;have hn1:n1=0:=hn1.symm;subst hn1;have HX1:=A6 (HXA.out.trans he1);have HM1:=A6 hm;have HS1:=A6 hs;have HC1:Hid (∀k,col k≠0→w.heap.size≤k):=A6 fun k hk=>Ar HXA.out.hsize (hc k hk)
 have HL1:=A6 (L2 hm (show([99,100]:List Int).length≤200 by decide) (show([]:List (List Int)).length≤1000 by decide))
 clear hm hs hc hh he1 HF hrun hev;go_wp2_with fail
 refine HL1.out.mono ?_
 rintro e w2 ⟨cs,rfl,hL,he2⟩;obtain⟨A,n,c,L,m,d,R,f,rfl,hI,hml⟩:=hL.lit;have HSm:=A6 (Uw (s:=⟨#[99,100]⟩) (show Bl w2 A n c ((Ao ⟨#[99,100]⟩).map Int.ofNat)from hI))
 have HE2:=A6 he2;have hf1:=Vw A n c f (.slice L m d) R (Jh c9 o r ra vi);have hf2:=Vv A n c (Jh c9 o r ra vi).at_;clear hL hI hml he2 HL1;go_wp2_with fail
 refine HSm.out.mono ?_
 rintro e w3 ⟨rfl,he3⟩;have HFd:=A6 (Y2 (HM1.out.ext (HE2.out.trans he3)) HS1.out (by decide) (show S1.size≤4096 by decide) m1 yJ)
 have HX3:=A6 (HX1.out.trans (HE2.out.trans he3));clear hf1 hf2 he3 HSm HE2;go_wp2_with fail
 refine HFd.out.mono ?_
 rintro e w4 ⟨col4,v4,E4,n4,k4,F4,m4,l4,o4,r4,ra4,vi4,rfl,hm4,hs4,ht4,hl4,_⟩;have hl4:n4=0:=hl4.symm;subst hl4;have HC4:Hid (∀k,col4 k≠0→w.heap.size≤k):=A6 fun k hk=>by
  rcases Nat.lt_or_ge k w3.heap.size with h1|h1
  ·exact HC1.out k (ht4.2 k h1 hk)
  ·exact Ar HX3.out.hsize h1
 have HX4:Hid (An w w4):=A6 (ht4.1.to_ext HX3.out fun k hk hM=>absurd (HC1.out k hM.1) (by omega))
 have HM4:=A6 hm4;have HS4:=A6 hs4;have HL4:=A6 (L2 hm4 (show Px.length≤200 by decide) (show([]:List (List Int)).length≤1000 by decide))
 clear hm4 hs4 ht4 HFd HM1 HS1 HC1 HX1;go_wp2_with fail
 refine HL4.out.mono ?_
 rintro e w5 ⟨cs5,rfl,hL5,he5⟩;obtain⟨A5,n5,c5',L5,m5,d5,R5,f5,rfl,hI5,_⟩:=hL5.lit;have HSm5:=A6 (Uw (s:=⟨#[97,98,32,99,100]⟩) (show Bl w5 A5 n5 c5' ((Ao ⟨#[97,98,32,99,100]⟩).map Int.ofNat)from hI5))
 have HE5:=A6 he5;have hf1:=Vw A5 n5 c5' f5 (.slice L5 m5 d5) R5 (Jh d1 o4 r4 ra4 vi4);have hf2:=Vv A5 n5 c5' (Jh d1 o4 r4 ra4 vi4).at_;clear hL5 hI5 he5 HL4;go_wp2_with fail
 refine HSm5.out.mono ?_
 rintro e w6 ⟨rfl,he6⟩;have HFd6:=A6 (Y2 (HM4.out.ext (HE5.out.trans he6)) HS4.out (by decide) (show S2.size≤4096 by decide) m2 yI)
 have HX6:=A6 (HX4.out.trans (HE5.out.trans he6));clear hf1 hf2 he6 HSm5 HE5;go_wp2_with fail
 refine HFd6.out.mono ?_
 rintro e w7 ⟨col7,v7,E7,n7,k7,F7,m7,l7,o7,r7,ra7,vi7,rfl,hm7,hs7,ht7,hl7,hev7⟩;have hl7:n7=1:=hl7.symm;subst hl7;obtain⟨ad,S7,q7,z7,rfl,g0,g1,gI7⟩:=hev7.at_ (k:=0) (by decide)
 have HX7:Hid (An w w7):=A6 (ht7.1.to_ext HX6.out fun k hk hM=>absurd (HC4.out k hM.1) (by omega))
 have HL7:Hid (∀wq,An w7 wq→_):=A6 fun wq he=>L2 (hm7.ext he) (show([]:List Int).length≤200 by decide) (show([[99,100]]:List (List Int)).length≤1000 by decide)
 have HSm7:=A6 (Uw (s:=⟨#[99,100]⟩) (show Bl w7 S7 q7 z7 ((Ao ⟨#[99,100]⟩).map Int.ofNat)from gI7))
 have had:ad.add (0*2)=ad:=by first|exact Addr.add_zero ad|(obtain⟨b9,o9,e9⟩:=ad;cases e9<;>simp[Addr.add])
 rw[had]at g0 g1;have g0:w7.cell? ad=some (.int .i64 2):=g0;clear hm7 hs7 ht7 hev7 gI7 HFd6 HM4 HS4 HC4 HX4;clear hl7;go_wp2_with fail
 refine HSm7.out.mono ?_
 rintro e w8 ⟨rfl,he8⟩;have HE8:=A6 he8;clear g0 g1 he8 HSm7;go_wp2_with fail
 refine(HL7.out w8 HE8.out).mono ?_
 rintro e w9 ⟨cs9,rfl,hL9,he9⟩;obtain⟨A9,n9,c9',L9,m9,d9,R9,f9,rfl,_,hml9⟩:=hL9.lit;have hml9:m9=1:=hml9.symm;subst hml9;have hf1:=cF (.slice A9 n9 c9') f9 L9 1 d9 R9 (Jh d3 o7 r7 ra7 vi7);have HX9:=A6 (HX7.out.trans (HE8.out.trans he9));clear hL9 he9 HL7;go_wp2_with fail
 go_ret
 exact⟨rfl,HX9.out⟩
theorem J1l (s0:PS)(a:ByteArray):J3 s0 [a] 1=Ky s0 a:=by unfold J3;simp only[List.take_succ_cons,List.take_zero,List.foldl_cons,List.foldl_nil]
theorem uA {g n:Nat}{ts:List ByteArray}(hb:Aq w g 9 (ts.map Value.string).toArray)(hn:ts.length=n)(hm:n≤1000):Rd w 1 (some ⟨g,0,none⟩) n n (ts.map Value.string):=by
 refine⟨by rw[List.length_map];omega,Nat.le_refl _,by unfold maxLen;omega,fun _=>⟨_,rfl,fun j u hj=>?_⟩⟩
 have e1:(⟨g,0,none⟩:Addr).add j=⟨g,j,none⟩:=by simp[Addr.add_lit]
 rw[e1,hb.cell j]
 simpa using hj
theorem Mb.evs {E S:Value}{evs:List (Int×List Int)}{vis:List Int}(h:Mb w b col E S evs vis):(∃A n c,E=.slice A n c∧tM w A n c evs)∧∃A n c,S=.slice A n c∧Bl w A n c vis:=by
 obtain⟨A,n,c,xs,F,rfl,h1,h2,h3,_⟩:=h.ev;obtain⟨A',n',c',rfl,h4⟩:=h.vi;have hev:EvR w b (.slice A n c) evs:=⟨A,n,c,xs,rfl,h1,h2,h3.here⟩;exact⟨hev.v,A',n',c',rfl,h4.ints⟩
theorem Fe.win {w w':World}(h:Fe w b cs s)(hw:∀k,b≤k→k<w.heap.size→w'.heap[k]? = w.heap[k]?):Fe w' b cs s:=
 {
  h with
  text:=let ⟨v,h1,h2⟩:=h.text;⟨v,h1,h2.win hw⟩
  regs:=fun i hi=>let ⟨v,h1,h2⟩:=h.regs i hi;⟨v,h1,h2.win hw⟩
  lines:=let ⟨A,n,c,h1,h2⟩:=h.lines;⟨A,n,c,h1,h2.win hw⟩
  row:=let ⟨v,h1,h2⟩:=h.row;⟨v,h1,h2.win hw⟩ }
theorem xF:∀(f:Nat) (r:List Nat),(Nq f r).length≤f:=by
 intro f
 induction f with
 |zero=>intro r;exact Aj _
 |succ f ih=>
  intro r;rw[Nq];split
  ·exact Nat.zero_le _
  ·rw[List.length_cons];have:=ih (r.drop (Eu r));omega
theorem xE {s:ByteArray}(w:World)(hs:s.size≤1048576):Calls Tryz.prog 17 #[.string s] w fun e w'=>∃(A:Option Addr) (q c:Nat) (y x:Int),e=.returned (.tuple #[.slice A q c,.int .i64 y,.int .i64 x])∧x=((M8 s.size (Ao s):Nat):Int)∧An w w':=by
 have:=xF s.size (Ao s);exact(J0z (w:=w) (by omega) (by omega)).mono fun e w' ⟨A,q,c,l,h1,_,_,_,h2⟩=>⟨A,q,c,_,_,h1,rfl,h2⟩
theorem Pu (w:World)(cs:Array Value):An w ((w.alloc (.cells E5 43)).setRow w.heap.size cs)∧Aq ((w.alloc (.cells E5 43)).setRow w.heap.size cs) w.heap.size 43 cs:=
 ⟨(An.alloc w (.cells E5 43)).setRow (Aj _) cs,(Aq.new w 43 E5).setRow cs⟩
def J2s (w:World)(col:Nat→Nat)(p:Nat)(s:PS)(v:Value)(w':World):Prop:=∃(col':Nat→Nat) (v':SV) (E:Option Addr) (n k:Nat) (S2:Option Addr) (n2 k2:Nat),
 v=.tuple #[.slice E n k,.slice S2 n2 k2,.int .i64 0]∧Di w' col' p v' s∧Li w col w' col'∧s.told.length=n∧tM w' E n k s.told∧s.tx.length≤200∧s.hi.lines.length≤1000
def J2h (w:World)(l:List Int)(e:Ending)(w':World):Prop:=∃(t:ByteArray) (b:Bool),e=.returned (.tuple #[.string t,.bool b])∧An w w'∧(b=true→(∀x∈l,El x)∧t=Ef (M7 l))
theorem gR {l:List Int}{n c:Nat}(hl:Bl w A n c l)(hn:n≤17592186043904):
 Calls Tryz.prog 24 #[.slice A n c] w (J2h w l):=by
 have HT:=A6 (jK hl hn);clear hl;go_enter Tryz.func24,Tryz.ntmps24
 go_wp2_with fail
 refine HT.out.mono ?_
 rintro e w1 ⟨h1,h2,he⟩;by_cases h:∀x∈l,El x
 ·obtain rfl:=h1 h
  go_wp2_with fail
  go_ret2
  exact⟨_,_,rfl,he,fun _=>⟨h,rfl⟩⟩
 ·obtain rfl:=h2 h
  go_wp2_with fail
  go_ret2
  exact⟨_,_,rfl,he,fun e=>by cases e⟩
def J1b (w:World)(s:PS)(e:Ending)(w':World):Prop:=∃b:Bool,e=.returned (.bool b)∧An w w'∧(b=true→s.mode=0∧s.part=Pt.zero∧s.over=false)
theorem pL {p:Nat}{v:SV}(hm:Di w col p v s)(htx:s.tx.length≤200)(hlh:s.hi.lines.length≤1000):
 Calls Tryz.prog 21 #[.pointer (some ⟨p,0,none⟩)] w (J1b w s):=by
 have HL:=A6 (L2 hm htx hlh);clear hm htx hlh;go_enter Tryz.func21,Tryz.ntmps21
 go_wp2_with fail
 refine HL.out.mono ?_
 rintro e w1 ⟨cs,rfl,hL,he1⟩;have HL1:=A6 hL;have HE1:=A6 he1;clear hL he1 HL;go_upto_region 2 with(refine wpList_store_row rfl 43 (.tmp 3) (.tmp 5) rfl w1.heap.size cs rfl rfl 43 E5 (Aq.new w1 _ E5) (Ju HL1.out.size) (by rw[HL1.out.size];rfl) HL1.out.one ?_)
 change Code.wp _ _ _ _ ((w1.alloc (.cells E5 43)).setRow w1.heap.size cs);obtain⟨hx,hb⟩:=Pu w1 cs;generalize (w1.alloc (.cells E5 43)).setRow w1.heap.size cs=W at*;generalize w1.heap.size=g at*;have HX:=A6 (HE1.out.trans hx);have h:=HL1.out;obtain⟨p3,p4,p5,p6,p7⟩:=h.part;have c2:=(hb.cell 2).trans h.mode;have c3:=(hb.cell 3).trans p3;have c4:=(hb.cell 4).trans p4;have c5:=(hb.cell 5).trans p5;have c6:=(hb.cell 6).trans p6;have c7:=(hb.cell 7).trans p7;have c40:=(hb.cell 40).trans h.over;have hpz:s.part=⟨s.part.first,s.part.reg,s.part.op,s.part.second,s.part.wait⟩:=rfl;generalize s.part.first=x0 at*;generalize s.part.reg=x1 at*;generalize s.part.op=x2 at*;generalize s.part.second=x3 at*;generalize s.part.wait=x4 at*;have HPz:=A6 hpz;clear h hb hx p3 p4 p5 p6 p7 HL1 HE1 hpz;by_cases hm0:s.mode=0
 case neg=>
  have hmb:(s.mode==0)=false:=by simpa using hm0
  go_wp2_with fail
  go_ret
  exact⟨_,rfl,HX.out,fun e=>by cases e⟩
 rw[hm0]at c2;by_cases hz:x0=0∧x1=0∧x2=0∧x3=0∧x4=0
 case neg=>
  rcases ne5 hz with hne|⟨rfl,hne⟩|⟨rfl,rfl,hne⟩|⟨rfl,rfl,rfl,hne⟩|⟨rfl,rfl,rfl,rfl,hne⟩
  all_goals
   have hnb:=beq_eq_false_iff_ne.2 hne;go_wp2_with fail
   go_ret
   exact⟨_,rfl,HX.out,fun e=>by cases e⟩
 obtain⟨rfl,rfl,rfl,rfl,rfl⟩:=hz;cases hov:s.over with
 |true=>
  rw[hov]at c40;go_wp2_with fail
  go_ret
  exact⟨_,rfl,HX.out,fun e=>by cases e⟩
 |false=>
  rw[hov]at c40;go_wp2_with fail
  go_ret
  exact⟨_,rfl,HX.out,fun _=>⟨hm0,HPz.out,hov⟩⟩
theorem J2q (hp:s.pend=[])(h:∀x∈ks,El x):Ky s (Ef (M7 ks))=C8 (Gx s []) ks:=by
 have hlt:=iR h;have hm:F3 s.pend (Ao (Ef (M7 ks)))=⟨[],ks⟩:=by
  unfold F3;rw[hp,Jt hlt,oU ks [] h]
  rfl
 unfold Ky;rw[hm]
theorem rW:∀(l:List Int),(M7 l).length≤4*l.length:=by
 intro l
 induction l with
 |nil=>exact Aj _
 |cons x l ih=>
  have e:M7 (x::l)=Fg x.toNat++M7 l:=rfl;have:=cG x.toNat;rw[e,List.length_append,List.length_cons];omega
theorem xQ {p N W:Nat}{v:SV}{t:ByteArray}(hm:Di w col p v s)(hs:Nv W N s)(hN:N≤1800000)(ho:s.over=false)(ht:t.size≤4096):
 Calls Tryz.prog 18 #[.pointer (some ⟨p,0,none⟩),.string t] w fun e w'=>∃u,e=.returned u∧J2s w col p (Ky s t) u w':=by
 obtain⟨q1,_,_,q4⟩:=hs.feed (b:=t) (by omega) ht
 refine(Uu (b:=t) hm ho hs.pend hs.pend.lt ht q4).mono ?_
 rintro e w' ⟨col',v',rfl,hm',ht',_⟩;have hm':Di w' col' p v' (Ky s t):=hm';obtain⟨E,n,k,xs,hvt,hO,hl,_,hD⟩:=hm'.told;obtain⟨S2,n2,k2,hvv,_⟩:=hm'.vis;have hev:EvR w' 0 (.slice E n k) (Ky s t).told:=⟨E,n,k,xs,rfl,hO,hl,hD.here⟩;obtain⟨E',n',k',e2,h2⟩:=hev.v;injection e2 with x1 x2 x3;subst x1 x2 x3;have htx:(Ky s t).tx.length≤200:=q1.inv.choose_spec.line.len;have hlh:(Ky s t).hi.lines.length≤1000:=by have h1:=q1.inv.choose_spec.hist;have:=h1.len;have:=h1.hi;omega
 exact⟨_,rfl,col',v',E,n,k,S2,n2,k2,by rw[hvt,hvv],hm',ht',hl,h2,htx,hlh⟩
theorem jE {c:Cm}(w:World):Calls Tryz.prog 23 #[.agg #[.int .i64 c.count,.int .i64 c.reg,.int .i64 c.op,.int .i64 c.verb,.int .i64 c.arg]] w fun e w'=>∃(O:Option Addr) (q d:Nat) (x:Int) (l:List Int),e=.returned (.tuple #[.slice O q d,.int .i64 x])∧An w w'∧Bl w' O q d l∧l.length≤8∧(x=0→l=Nl c∧Hs (Nl c)=⟨[c],Pt.zero,0⟩):=by
 obtain⟨f,r,o,v,a⟩:=c;refine(jF (f:=f) (r:=r) (o:=o) (v:=v) (a:=a) w).mono ?_
 rintro e w' ⟨he,⟨k,rfl,hk,_⟩|⟨O,q,d,rfl,hO,hall⟩⟩
 ·exact⟨_,_,_,_,[],rfl,he,Bl.none_ w',by simp,fun e=>absurd e hk⟩
 ·exact⟨_,_,_,_,_,rfl,he,hO.ints,aY _,fun _=>⟨rfl,hall⟩⟩
theorem Xs (w:World)(vs:Array Value):An w ((w.alloc (.cells Ea 77)).setRow w.heap.size vs)∧Aq ((w.alloc (.cells Ea 77)).setRow w.heap.size vs) w.heap.size 77 vs:=
 ⟨(An.alloc w (.cells Ea 77)).setRow (Aj _) vs,(Aq.new w 77 Ea).setRow vs⟩
theorem J0n:∀(j:Nat) (v:Value),(vs.extract 2 29)[j]? = some v→vs[2+j]? = some v:=by
 exact I102
theorem uI (h:vs.size=33):(Tryz.prog.info? 38).map (·.size)=some (vs.extract 2 29).size:=by rw[Array.size_extract,h];kernel_rfl
theorem Mp.regs' {B:Option Addr}{q k:Nat}{r:Nat→Value}{e:Value}{d:Dn}(h:Mp w b B q k r d):Kn w ((S9 B q k r e d).extract 2 29) d.rl:=by
 refine⟨by rw[Array.size_extract];rfl,fun i hi=>⟨r i,?_,(h.regs i hi).sl⟩⟩
 rw[Array.getElem?_extract,if_pos (by show i<27;exact hi)]
 exact I1
theorem Z6 {W f r o vb g:Int}{a:ByteArray}(ha:a.size≤1048576):
 Calls Tryz.prog 8 #[.int .i64 W,.string a,.agg #[.int .i64 f,.int .i64 r,.int .i64 o,.int .i64 vb,.int .i64 g]] w fun e w'=>e=.returned (.bool true)∧An w w':=by
 have HB0:=A6 (Aq.new w 62 #[.int .i64 f,.int .i64 r,.int .i64 o,.int .i64 vb,.int .i64 g]);have HX0:=A6 (An.alloc w (.cells #[.int .i64 f,.int .i64 r,.int .i64 o,.int .i64 vb,.int .i64 g] 62));have HWk:Hid (∀wq,_):=A6 fun(wq:World)=>oM wq
 have H1:Hid (∀wq,_):=A6 fun(wq:World)=>oC (most:=5) (W:=W) (uA (n:=1) (ts:=[a]) (Aq.new wq 9 #[.string a]) rfl (by decide)) (fun i hi hs=>by
  have e:i=0∨i=1:=by omega
  rcases e with rfl|rfl
  ·exact Aw _
  ·show 0+(a.size+1)≤_;omega)
 have HWr:Hid (∀wq,_):=A6 fun(wq:World)=>jE (c:=⟨f,r,o,vb,g⟩) wq
 have HA:Hid (∀wq,_):=A6 fun(wq:World)=>xE wq ha
 have HSz:=A6 ha;clear ha;go_enter Tryz.func8,Tryz.ntmps8
 go_upto_region 1 with fail
 change Code.wp _ _ _ _ (w.alloc (.cells #[.int .i64 f,.int .i64 r,.int .i64 o,.int .i64 vb,.int .i64 g] 62));have hws:w.heap.size<(w.alloc (.cells #[.int .i64 f,.int .i64 r,.int .i64 o,.int .i64 vb,.int .i64 g] 62)).heap.size:=by simp
 generalize w.alloc (.cells #[.int .i64 f,.int .i64 r,.int .i64 o,.int .i64 vb,.int .i64 g] 62)=w0 at*;go_wp2_with fail
 refine(HWk.out w0).mono ?_
 rintro e w1 ⟨rfl,he1⟩;have HX1:=A6 (HX0.out.trans (he1.to_alloc (.cells #[.string a] 9)));have HB1:=A6 (HB0.out.ext (he1.to_alloc (.cells #[.string a] 9)));clear he1 HX0 HB0;go_wp2_with fail
 refine(H1.out w1).mono ?_
 rintro e w2 ⟨he2,hcase⟩;have HX2:=A6 (HX1.out.trans he2);have HB2:=A6 (HB1.out.ext he2);have HXw:=A6 HX1.out.hsize;clear he2 H1 HB1 HWk;rcases hcase with⟨_,hgo,p,col,v,E,S,rfl,hm,hs,hc,hh⟩|⟨_,rfl⟩
 case inr=>
  have hb2:=HB2.out;obtain⟨c0,c1,c2,c3,c4⟩:=(⟨hb2.cell 0,hb2.cell 1,hb2.cell 2,hb2.cell 3,hb2.cell 4⟩:_∧_∧_∧_∧_);simp only[Ah,Af,Ag]at c0 c1 c2 c3 c4;clear hb2;go_wp2_with fail
  refine(HWr.out w2).mono ?_
  rintro e w3 ⟨O,q,d,x,l,rfl,he3,hI,hl8,_⟩;have HT:=A6 (gR hI (by rw[←hI.len];omega))
  have HX3:=A6 (HX2.out.trans he3);clear hI he3 c0 c1 c2 c3 c4;go_wp2_with fail
  refine HT.out.mono ?_
  rintro e w4 ⟨t,b,rfl,he4,_⟩;have HX4:=A6 (HX3.out.trans he4);clear he4;go_wp2_with fail
  refine(HA.out w4).mono ?_
  rintro e w5 ⟨A5,q5,c5,y,z,rfl,_,he5⟩;have HX5:=A6 (HX4.out.trans he5);clear he5;go_wp2_with fail
  go_ret
  exact⟨rfl,HX5.out⟩
 obtain⟨⟨E1,n1,k1,rfl,_⟩,S1',q1,z1,rfl,_⟩:=hh.evs;have hpend:M8 a.size (Ao a)=0→(J3 (Jj 5 W.toNat) [a] 1).pend=[]:=fun h=>by rw[J1l];exact rS rfl h
 have htx:(J3 (Jj 5 W.toNat) [a] 1).tx.length≤200:=hs.inv.choose_spec.line.len;have hcha:Fl (J3 (Jj 5 W.toNat) [a] 1).tx:=hs.inv.choose_spec.tx;have hlh:(J3 (Jj 5 W.toNat) [a] 1).hi.lines.length≤1000:=by have h1:=hs.inv.choose_spec.hist;have:=h1.len;have:=h1.hi;omega
 have HPl:=A6 (Bb hpend (Bb htx (Bb hlh hcha)));have HM:=A6 hm;have HS:Hid (Nv W.toNat (Zn [a] 1) (J3 (Jj 5 W.toNat) [a] 1)∧Zn [a] 1≤1800000):=A6 ⟨hs,by show 0+(a.size+1)≤_;have:=HSz.out;omega⟩
 have HC:Hid (∀k,col k≠0→w.heap.size≤k):=A6 fun k hk=>Ar HXw.out (hc k hk)
 have HDom:Hid (∀k,col k≠0→k<w2.heap.size):=A6 hm.ses.dom;clear hm hs hc hh hpend htx hlh hcha hgo HX1;generalize J3 (Jj 5 W.toNat) [a] 1=s1 at*;have hb2:=HB2.out;obtain⟨c0,c1,c2,c3,c4⟩:=(⟨hb2.cell 0,hb2.cell 1,hb2.cell 2,hb2.cell 3,hb2.cell 4⟩:_∧_∧_∧_∧_);simp only[Ah,Af,Ag]at c0 c1 c2 c3 c4;clear hb2;go_wp2_with fail
 refine(HWr.out w2).mono ?_
 rintro e w3 ⟨O,q,d,x,l,rfl,he3,hI,hl8,hwr⟩;have HT:=A6 (gR hI (by rw[←hI.len];omega))
 have HWx:=A6 hwr;have HE3:=A6 he3;clear hI he3 c0 c1 c2 c3 c4 hwr;go_wp2_with fail
 refine HT.out.mono ?_
 rintro e w4 ⟨t,b,rfl,he4,htb⟩;have HE4:=A6 (HE3.out.trans he4);have HTb:=A6 htb;clear he4 htb HE3;go_wp2_with fail
 refine(HA.out w4).mono ?_
 rintro e w5 ⟨A5,q5,c5,y,z,rfl,hz,he5⟩;have HE5:=A6 (HE4.out.trans he5);have HZ:=A6 hz;clear he5 hz HA HE4;by_cases hz0:z=0
 case neg=>
  have hzb:(z !=0)=true:=by simpa using hz0
  have hend:=HX2.out.trans HE5.out;go_wp2_with fail
  go_ret
  exact⟨rfl,hend⟩
 subst hz0;have HQ:=A6 (pL (HM.out.ext HE5.out) HPl.out.2.1 HPl.out.2.2.1);go_wp2_with fail
 refine HQ.out.mono ?_
 rintro e w6 ⟨qb,rfl,he6,hqq⟩;have HE6:=A6 (HE5.out.trans he6);have HQq:=A6 hqq;clear he6 hqq HE5 HQ;have hend:=HX2.out.trans HE6.out;cases qb with
 |false=>
  go_wp2_with fail
  go_ret
  exact⟨rfl,hend⟩
 |true=>
 by_cases hx0:x=0
 case neg=>
  have hxb:(x !=0)=true:=by simpa using hx0
  go_wp2_with fail
  go_ret
  exact⟨rfl,hend⟩
 subst hx0;cases b with
 |false=>
  go_wp2_with fail
  go_ret
  exact⟨rfl,hend⟩
 |true=>
 clear hend;obtain⟨hsc,rfl⟩:=HTb.out rfl;obtain⟨rfl,hall⟩:=HWx.out rfl;obtain⟨hm0,hp0,ho0⟩:=HQq.out rfl;have hpe:s1.pend=[]:=HPl.out.1 (by have:=HZ.out;omega)
 have hrun:∀(hv:o≠0∨¬(vb=117∨vb=85∨vb=46∨vb=106∨vb=107∨vb=71∨vb=47∨vb=63∨vb=110∨vb=78)),_:=fun hv=>J0w (s:=Gx s1 []) (c:=⟨f,r,o,vb,g⟩) hall hm0 hp0 ho0 hv
 have hft:=J2q hpe hsc;have hts:(Ef (M7 (Nl ⟨f,r,o,vb,g⟩))).size≤4096:=by
  rw[←Dx,Jt (iR hsc)];have:=rW (Nl ⟨f,r,o,vb,g⟩);omega
 rw[←hft]at hrun;have HRun:=A6 hrun;have HTs:=A6 hts;have HOv:=A6 ho0;generalize Ef (M7 (Nl ⟨f,r,o,vb,g⟩))=t at*;clear HTb HWx HQq hm0 hp0 ho0 hpe hrun hft hts hsc hall HT HZ hl8 HWr;have hb6:=HB2.out.ext HE6.out;have c2:=hb6.cell 2;have c3:=hb6.cell 3;simp only[Ah,Af,Ag]at c2 c3;clear hb6;by_cases hsp:o=0∧(vb=117∨vb=85∨vb=46∨vb=106∨vb=107∨vb=71∨vb=47∨vb=63∨vb=110∨vb=78)
 case pos=>
  obtain⟨rfl,hsp⟩:=hsp;have hend:=HX2.out.trans HE6.out;rcases hsp with rfl|rfl|rfl|rfl|rfl|rfl|rfl|rfl|rfl|rfl
  all_goals
   go_wp2_with fail
   go_ret
   exact⟨rfl,hend⟩
 have hv:o≠0∨¬(vb=117∨vb=85∨vb=46∨vb=106∨vb=107∨vb=71∨vb=47∨vb=63∨vb=110∨vb=78):=by omega
 have HDo:=A6 (HRun.out hv);have HL1:=A6 (L2 (HM.out.ext HE6.out) HPl.out.2.1 HPl.out.2.2.1);have hvs:((o==0)=true∧((vb==117)=false∧(vb==85)=false∧(vb==46)=false∧(vb==106)=false∧(vb==107)=false)∧(vb==71)=false∧(vb==47)=false∧(vb==63)=false∧(vb==110)=false∧(vb==78)=false)∨(o==0)=false:=by
  by_cases ho:o=0
  ·refine .inl ⟨by simpa using ho,?_⟩
   have hn:=hv.resolve_left (fun e=>e ho)
   simp only[beq_eq_false_iff_ne,ne_eq];omega
  ·exact .inr (by simpa using ho)
 clear hsp hv HRun;rcases hvs with⟨hob,⟨v1,v2,v3,v4,v5⟩,v6,v7,v8,v9,v10⟩|hob
 all_goals
  go_upto_region 22 with fail
  go_wp2_with fail
  refine HL1.out.mono ?_
  rintro e w7 ⟨cs,rfl,hL,he7⟩;have HL:=A6 hL;have HE7:=A6 (HE6.out.trans he7);have HB6:Hid (w2.heap.size≤w6.heap.size):=A6 HE6.out.hsize;clear hL he7 HL1 c2 c3 HE6;go_upto_region 23 with(refine wpList_store_row rfl 43 (.tmp 18) (.tmp 88) rfl w7.heap.size cs rfl rfl 43 E5 (Aq.new w7 _ E5) (Ju HL.out.size) (by rw[HL.out.size];rfl) HL.out.one ?_)
  change Code.wp _ _ _ _ ((w7.alloc (.cells E5 43)).setRow w7.heap.size cs);obtain⟨hx8,hb8⟩:=Pu w7 cs;have hL8:=HL.out.ext hx8;have hc8:=HB2.out.ext (HE7.out.trans hx8);generalize (w7.alloc (.cells E5 43)).setRow w7.heap.size cs=w8 at*;have HE8:=A6 (HE7.out.trans hx8);have hg7:w2.heap.size≤w7.heap.size:=HE7.out.hsize;have hw7:w.heap.size≤w7.heap.size:=Ar HX2.out.hsize hg7;obtain⟨v0,a0,A,n,k0,rfl,t1,_⟩:=hL8.text;obtain⟨f8,f9⟩:=hL8.find;have HDw:=A6 (J1i (a:=s1.at_) (fk:=s1.fk) (fa:=s1.fa) (c:=⟨f,r,o,vb,g⟩) (rl:=s1.rl) (rs:=cs.extract 10 37) (Bd.lower t1 (Aw _)) (fun x hx=>(HPl.out.2.2.2 x hx).wf) hL8.regs')
  unfold Ni at HDw;simp only at HDw;have x0:=(hb8.cell 0).trans a0;have x1:=(hb8.cell 1).trans hL8.at_;have x8:=(hb8.cell 8).trans f8;have x9:=(hb8.cell 9).trans f9;have HL8:=A6 hL8;have HB8:=A6 hb8;have q0:=hc8.cell 0;have q1:=hc8.cell 1;have q2:=hc8.cell 2;have q3:=hc8.cell 3;have q4:=hc8.cell 4;simp only[Ah,Af,Ag]at q0 q1 q2 q3 q4;generalize w7.heap.size=g7 at*;clear hL8 hb8 hc8 hx8 HL HE7 t1 a0 f8 f9;go_wp2_with (refine Ki (by kernel_rfl) 38 (.tmp 92) rfl g7 10 rfl 43 cs (cs.extract 10 37) (0,0) _ HB8.out (xR HL8.out.size) Tryz.underlying38 rfl (nS HL8.out.size) ?_)
  refine HDw.out.mono ?_
  rintro e w9 ⟨u,rfl,⟨vs,er,rfl,hdo⟩,he9⟩;have HE9:=A6 (HE8.out.trans he9);have HB9:=A6 (HB8.out.ext he9);have HL9:=A6 (HL8.out.ext he9);have hw89:w2.heap.size≤w8.heap.size:=HE8.out.hsize;have hg79:g7<w9.heap.size:=HB9.out.lt;have HXw8:Hid (w8.heap.size≤w9.heap.size):=A6 he9.hsize;clear he9 HDw x0 x1 x8 x9 q0 q1 q2 q3 q4 HL8 HB8 HE8;rcases hdo with⟨rfl,d,ed,hdd,hres⟩|⟨her,hdd,rfl⟩
  case inr=>
   obtain⟨hd1,hd2,hd3⟩:=HDo.out.1 hdd;have HD:=A6 (Bb hd1 (Bb hd2 hd3));have herb:(er !=0)=true:=by simpa using her
   clear hd1 hd2 hd3 HDo hdd her;go_upto_region 24 with(refine wpList_store_row rfl 77 (.tmp 19) (.tmp 98) rfl w9.heap.size Ea rfl rfl 77 Ea (Aq.new w9 _ Ea) (Fw rfl) rfl P8 ?_)
   change Code.wp _ _ _ _ ((w9.alloc (.cells Ea 77)).setRow w9.heap.size Ea);obtain⟨hx10,_⟩:=Xs w9 Ea;generalize (w9.alloc (.cells Ea 77)).setRow w9.heap.size Ea=w10 at*;have HE10:=A6 (HE9.out.trans hx10);have HB10:=A6 (HB9.out.ext hx10);have HL10:=A6 (HL9.out.ext hx10);have HFd:=A6 (xQ (HM.out.ext HE10.out) HS.out.1 HS.out.2 HOv.out HTs.out);generalize w9.heap.size=g9 at*;generalize Ky s1 t=s2 at*;clear hx10 HB9 HL9 HE9;go_wp2_with fail
   refine HFd.out.mono ?_
   rintro e w11 ⟨u,rfl,col7,v7,E7,n7,k7,S7,q7,z7,rfl,hm7,ht7,hl7,hev7,htx7,hlh7⟩;have HX11:Hid (An w w11):=A6 (ht7.1.to_ext (HX2.out.trans HE10.out) fun k hk hM=>absurd (HC.out k hM.1) (by omega))
   have HB11:Hid (Aq w11 g7 43 cs):=A6 (ht7.1.blk HB10.out fun hn=>absurd (HDom.out g7 hn.1) (by omega))
   have HL11:Hid (Fe w11 w6.heap.size cs s1):=A6 (HL10.out.win fun k h1 h2=>ht7.1.block k h2 fun hn=>absurd (HDom.out k hn.1) (by have:=HB6.out;omega))
   have HLk:=A6 (L2 hm7 htx7 hlh7);have hn7:n7=1:=by rw[←hl7,HD.out.1];rfl
   subst hn7;obtain⟨ad,S8,q8,z8,rfl,g0,_,_⟩:=hev7.at_ (k:=0) (by decide)
   have had:ad.add (0*2)=ad:=by first|exact Addr.add_zero ad|(obtain⟨b9,o9,e9⟩:=ad;cases e9<;>simp[Addr.add])
   rw[had,HD.out.1]at g0;have G0:Hid (∀wq,An w11 wq→wq.cell? ad=some (.int .i64 1)):=A6 fun wq he=>he.cell g0
   clear hm7 htx7 hlh7 ht7 HB10 HL10 HE10 HFd HC HDom hev7 hl7 g0 had;go_wp2_with fail
   refine HLk.out.mono ?_
   rintro e w12 ⟨ds,rfl,hK,he12⟩;have HK:=A6 hK;have HE12:=A6 he12;clear hK he12 HLk;go_upto_region 26 with(refine wpList_store_row rfl 43 (.tmp 24) (.tmp 108) rfl w12.heap.size ds rfl rfl 43 E5 (Aq.new w12 _ E5) (Ju HK.out.size) (by rw[HK.out.size];rfl) HK.out.one ?_)
   change Code.wp _ _ _ _ ((w12.alloc (.cells E5 43)).setRow w12.heap.size ds);obtain⟨hx13,hb13⟩:=Pu w12 ds;have h:=HK.out.ext hx13;have hxx:=HE12.out.trans hx13;have h':=HL11.out.ext hxx;have hb8:=HB11.out.ext hxx;have hx:=HX11.out.trans hxx;have g0:=G0.out _ hxx;generalize (w12.alloc (.cells E5 43)).setRow w12.heap.size ds=W2 at*;generalize w12.heap.size=g12 at*;obtain⟨v0,a0,A1,n1',c1,rfl,t1,_⟩:=h.text;obtain⟨v0',a0',A',n',c1',rfl,t1',_⟩:=h'.text;have y1:=h.at_;rw[HD.out.2.1]at t1;rw[HD.out.2.2]at y1;have HLine:=A6 (Tj (a:=s1.at_) t1.ints t1'.ints);have HX:=A6 hx;have x0:=(hb13.cell 0).trans a0;have x1:=(hb13.cell 1).trans y1;have y0:=(hb8.cell 0).trans a0';have y1':=(hb8.cell 1).trans h'.at_;clear h h' hxx hx hb8 hb13 t1 t1' a0 a0' y1 hx13 HK HE12 HX11 HB11 HL11 G0 HD;go_wp2_with fail
   refine HLine.out.mono ?_
   rintro e2 w14 ⟨rfl,he14⟩;clear x0 x1 y0 y1' g0;go_wp2_with fail
   go_ret
   exact⟨rfl,HX.out.trans he14⟩
  case inl=>
   obtain⟨hd1,hd2,hd3,hd4,hd5,hd6,hd7⟩:=HDo.out.2 d hdd;have HD:=A6 (Bb hd1 (Bb hd2 (Bb hd3 (Bb hd4 (Bb hd5 (Bb hd6 hd7))))));obtain⟨B9,q9,k9,rr,e9,rfl,hdn,hone⟩:=hY hres;have HOne:=A6 hone;have HDn:=A6 hdn;clear hd1 hd2 hd3 hd4 hd5 hd6 hd7 HDo hdd hres hdn hone;go_upto_region 24 with(refine wpList_store_row rfl 77 (.tmp 19) (.tmp 98) rfl w9.heap.size (S9 B9 q9 k9 rr e9 d) rfl rfl 77 Ea (Aq.new w9 _ Ea) (Fw rfl) rfl HOne.out ?_)
   change Code.wp _ _ _ _ ((w9.alloc (.cells Ea 77)).setRow w9.heap.size (S9 B9 q9 k9 rr e9 d));obtain⟨hx10,hr10⟩:=Xs w9 (S9 B9 q9 k9 rr e9 d);generalize (w9.alloc (.cells Ea 77)).setRow w9.heap.size (S9 B9 q9 k9 rr e9 d)=w10 at*;have HE10:=A6 (HE9.out.trans hx10);have HDn10:=A6 (HDn.out.ext hx10);have HR10:=A6 hr10;have hg9:w2.heap.size≤w9.heap.size:=HE9.out.hsize;have HFd:=A6 (xQ (HM.out.ext HE10.out) HS.out.1 HS.out.2 HOv.out HTs.out);generalize w9.heap.size=g9 at*;generalize Ky s1 t=s2 at*;clear hx10 hr10 HB9 HL9 HE9 HDn HOne;go_wp2_with fail
   refine HFd.out.mono ?_
   rintro e w11 ⟨u,rfl,col7,v7,E7,n7,k7,S7,q7,z7,rfl,hm7,ht7,hl7,hev7,htx7,hlh7⟩;have HX11:Hid (An w w11):=A6 (ht7.1.to_ext (HX2.out.trans HE10.out) fun k hk hM=>absurd (HC.out k hM.1) (by omega))
   have HR11:Hid (Aq w11 g9 77 (S9 B9 q9 k9 rr e9 d)):=A6 (ht7.1.blk HR10.out fun hn=>absurd (HDom.out g9 hn.1) (by omega))
   have HDn11:Hid (Mp w11 w8.heap.size B9 q9 k9 rr d):=A6 (HDn10.out.win fun k h1 h2=>ht7.1.block k h2 fun hn=>absurd (HDom.out k hn.1) (by omega))
   have HLk:=A6 (L2 hm7 htx7 hlh7);have hn7:n7=0:=by rw[←hl7,HD.out.1];rfl
   subst hn7;clear hm7 htx7 hlh7 ht7 HR10 HDn10 HE10 HFd HC HDom hev7 hl7;go_wp2_with fail
   refine HLk.out.mono ?_
   rintro e w12 ⟨ds,rfl,hK,he12⟩;have HK:=A6 hK;have HE12:=A6 he12;clear hK he12 HLk;go_upto_region 26 with(refine wpList_store_row rfl 43 (.tmp 24) (.tmp 108) rfl w12.heap.size ds rfl rfl 43 E5 (Aq.new w12 _ E5) (Ju HK.out.size) (by rw[HK.out.size];rfl) HK.out.one ?_)
   change Code.wp _ _ _ _ ((w12.alloc (.cells E5 43)).setRow w12.heap.size ds);obtain⟨hx13,hb13⟩:=Pu w12 ds;have h:=HK.out.ext hx13;have hxx:=HE12.out.trans hx13;have hr:=HR11.out.ext hxx;have hdn:=HDn11.out.ext hxx;have hx:=HX11.out.trans hxx;generalize (w12.alloc (.cells E5 43)).setRow w12.heap.size ds=W2 at*;generalize w12.heap.size=g12 at*;obtain⟨v0,a0,A1,n1',c1,rfl,t1,_⟩:=h.text;obtain⟨f8,f9⟩:=h.find;have y1:=h.at_;have y2:=h.mode;have r1:=h.regs';obtain⟨_,z2,z3,z4,z5,z6,z7⟩:=HD.out;rw[z2]at t1;rw[z3]at y1;rw[z4]at r1;rw[z5]at f8;rw[z6]at f9;rw[z7]at y2;have HLine:=A6 (Tj (a:=d.at_) t1.ints hdn.text.ints);have HRg:Hid (∀wq,An W2 wq→_):=A6 fun wq he=>cB (r1.ext he) ((hdn.ext he).regs' (e:=e9))
   have HX:=A6 hx;have HBk:Hid (∀wq,An W2 wq→_):=A6 fun wq he=>hb13.ext he
   have HBr:Hid (∀wq,An W2 wq→_):=A6 fun wq he=>hr.ext he
   have HSz2:=A6 h.size;have HCell:Hid (∀wq,An W2 wq→wq.cell? ⟨g12,0,none⟩=some (.slice A1 n1' c1)∧wq.cell? ⟨g12,1,none⟩=some (.int .i64 d.at_)∧wq.cell? ⟨g12,2,none⟩=some (.int .i64 d.md)∧wq.cell? ⟨g12,8,none⟩=some (.int .i64 d.fk)∧wq.cell? ⟨g12,9,none⟩=some (.int .i64 d.fa)∧
    wq.cell? ⟨g9,0,none⟩=some (.slice B9 q9 k9)∧wq.cell? ⟨g9,1,none⟩=some (.int .i64 d.at_)∧wq.cell? ⟨g9,29,none⟩=some (.int .i64 d.fk)∧wq.cell? ⟨g9,30,none⟩=some (.int .i64 d.fa)∧wq.cell? ⟨g9,31,none⟩=some (.int .i64 d.md)):=A6 fun wq he=>
    ⟨he.cell ((hb13.cell 0).trans a0),he.cell ((hb13.cell 1).trans y1),he.cell ((hb13.cell 2).trans y2),he.cell ((hb13.cell 8).trans f8),he.cell ((hb13.cell 9).trans f9),
     he.cell (hr.cell 0),he.cell (hr.cell 1),he.cell (hr.cell 29),he.cell (hr.cell 30),he.cell (hr.cell 31)⟩
   clear h hxx hx hb13 hr hdn t1 r1 a0 y1 y2 f8 f9 z2 z3 z4 z5 z6 z7 hx13 HK HE12 HX11 HR11 HDn11 HD;obtain⟨x0,x1,x2,x8,x9,p0,p1,p29,p30,p31⟩:=HCell.out W2 (An.refl _);go_wp2_with fail
   refine HLine.out.mono ?_
   rintro e2 w14 ⟨rfl,he14⟩;clear x0 x1 x2 x8 x9 p0 p1 p29 p30 p31;obtain⟨x0,x1,x2,x8,x9,p0,p1,p29,p30,p31⟩:=HCell.out w14 he14;go_wp2_with (first
    |(refine Ki (by kernel_rfl) 38 (.tmp 139) rfl g12 10 rfl 43 ds (ds.extract 10 37) (0,0) _ (HBk.out _ he14) (xR HSz2.out) Tryz.underlying38 rfl (nS HSz2.out) ?_)
    |(refine Ki (by kernel_rfl) 38 (.tmp 141) rfl g9 2 rfl 77 (S9 B9 q9 k9 rr e9 d) ((S9 B9 q9 k9 rr e9 d).extract 2 29) (0,0) _ (HBr.out _ he14) J0n Tryz.underlying38 rfl (uI rfl) ?_))
   refine(HRg.out w14 he14).mono ?_
   rintro e3 w15 ⟨rfl,he15⟩;have he:=he14.trans he15;clear x0 x1 x2 x8 x9 p0 p1 p29 p30 p31;obtain⟨x0,x1,x2,x8,x9,p0,p1,p29,p30,p31⟩:=HCell.out w15 he;go_wp2_with fail
   go_ret
   exact⟨rfl,HX.out.trans he⟩
end
