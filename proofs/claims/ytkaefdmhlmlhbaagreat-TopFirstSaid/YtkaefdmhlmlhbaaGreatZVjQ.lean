/-
  Part ZVjQ.
-/
import Derived.Test.YtkaefdmhlmlhbaaGreatZVjF
import Derived.Test.YtkaefdmhlmlhbaaGreatZKeyO
import Derived.Laws.IdiomStrings
import Derived.OwnWalk
import Derived.Deep.CutBlock
set_option maxRecDepth 100000
set_option maxHeartbeats 16000000
set_option linter.unusedVariables false
set_option linter.unusedSimpArgs false
namespace Go.Proofs.YtkaefdmhlmlhbaaGreat
open Go.RowKit
open _root_.Go.Proofs.Tryz
open _root_.Array renaming getElem?_eq_none→Tg
open _root_.Nat renaming le_trans→Ar
open _root_.And renaming intro→Au
open _root_.List renaming eq_nil_of_length_eq_zero→Cz,getElem?_cons_succ→Ag,getElem?_cons_zero→Af,getElem?_toArray→Ah,mem_singleton→Cw
section
variable {w:World}{col:Nat→Nat}{s:PS}{ks ty:List Int}{A:Option Addr}{t:ByteArray}{cs:Array Value}{c:Cm}{v:SV}{p N W b:Nat}
def BsV (w:World)(A:Option Addr)(n:Nat)(bs:List Nat):Prop:=bs.length=n∧∀k,k<n→∃ad,A=some ad∧w.cell? (ad.add k)=some (.int .u8 (gN bs k:Int))∧gN bs k<256
theorem BsV.ext {w w':World}{n:Nat}{bs:List Nat}(h:BsV w A n bs)(he:An w w'):BsV w' A n bs:=
 ⟨h.1,fun k hk=>by obtain⟨ad,h1,h2,h3⟩:=h.2 k hk;exact⟨ad,h1,he.cell h2,h3⟩⟩
theorem jW (w:World)(s:ByteArray):∃c W,(convert 9 121 (.string s)).run prog w=.ok (.slice (some ⟨w,0,none⟩) s.size c) W∧BsV W (some ⟨w,0,none⟩) s.size (Ap s)∧An w W:=by
 refine⟨_,_,run_bytes_of_string w _ _ 5 s underlying9 underlying121 underlying5,⟨F5 s,fun k hk=>⟨_,rfl,?_,?_⟩⟩,?_⟩
 ·have di:k<s.data.size:=hk
  have e1:(⟨w,0,none⟩:Addr).add k=⟨w,k,none⟩:=by simp[Addr.add_lit]
  rw[e1];have h:=World.cell?_alloc_mark w.drew (bytesRow s (grownCap w s.size 0 5)) 5 ((bytesRow s (grownCap w s.size 0 5)).size,(bytesRow s (grownCap w s.size 0 5)).size+1) k;refine(show _=_ from h).trans ((bytesRow_at s _ k di).trans ?_)
  unfold gN Ap;rw[List.getElem?_map,Array.getElem?_toList,Array.getElem?_eq_getElem di]
  rfl
 ·have di:k<s.data.size:=hk
  unfold gN Ap;rw[List.getElem?_map,Array.getElem?_toList,Array.getElem?_eq_getElem di];exact UInt8.toNat_lt _
 ·exact(An.drew w).to_alloc _
theorem nF {x:Nat}(hx:x<256)(w:World):
 Calls prog 51 #[.int .i64 (x:Int),.int .u8 (x:Int)] w fun e w'=>e=.returned (.bool true)∧An w w':=by
 have mg:IntKind.i64.wrap (x:Int)=(x:Int):=IntWalk.i64_in _ (by omega)
 have b1:((x:Int)==(x:Int))=true:=by simp
 go_enter func51,ntmps51
 go_wp2_with fail
 go_ret
 exact⟨rfl,An.refl _⟩
theorem jY {A B:Option Addr}{n c d:Nat}{bs:List Nat}(h:Bj w A n c (bs.map Int.ofNat))(h':BsV w B n bs):
 Calls prog 50 #[.slice A n c,.slice B n d,.func (.func 51) #[] #[]] w fun e w'=>e=.returned (.bool true)∧An w w':=by
 have aq:=Nat.le_trans h.ncap h.nmax;unfold maxLen at aq;have ai:((n:Int) !=(n:Int))=false:=by simp
 go_enter func50,ntmps50
 go_wp2_with fail
 go_loopw [17] (fun i wr=>∃k:Nat,k≤n∧i=.int .i64 k∧An w wr) (fun i _=>n-(intOf i).toNat)
 case atStart=>exact⟨0,by omega,rfl,An.refl _⟩
 case round=>
  obtain⟨k,hk,rfl,he⟩:=hrel;by_cases ae:k<n
  ·obtain⟨ad,rfl,hc⟩:=(h.ext he).at_ ae
   have DQ:=hc k ae;obtain⟨VO,rfl,hd,ZI⟩:=(h'.ext he).2 k ae;have hg:gI (bs.map Int.ofNat) k=(gN bs k:Int):=by
    unfold gI gN;rw[List.getElem?_map];have:k<bs.length:=by rw[h'.1];exact ae
    rw[List.getElem?_eq_getElem this]
    rfl
   rw[hg]at DQ;generalize gN bs k=x at*;have HC:=A6 (nF ZI wr);have HE:=A6 he;clear hc hg he;go_wp2_with fail
   refine HC.out.mono ?_
   rintro e' w1 ⟨rfl,aj⟩;clear HC;go_wp2_with fail
   go_roundw
   case rel=>exact⟨k+1,by omega,by go_num,HE.out.trans aj⟩
   case measure=>simp[intOf];omega
  ·obtain rfl:k=n:=by omega
   go_wp2_with fail
   go_ret
   exact⟨rfl,he⟩
theorem Wh {n c:Nat}{s:ByteArray}(h:Bj w A n c ((Ap s).map Int.ofNat)):
 Calls prog 29 #[.slice A n c,.string s] w fun e w'=>e=.returned (.bool true)∧An w w':=by
 obtain⟨d,W,O6,hB,hE⟩:=jW w s;have hn:s.size=n:=by rw[←h.len,List.length_map,F5]
 rw[hn]at O6 hB;have HC:=A6 (jY (d:=d) (h.ext hE) hB);have HX:=A6 hE;clear h hB hE hn;go_enter func29,ntmps29
 go_wp2_with fail
 refine HC.out.mono ?_
 rintro e' w1 ⟨rfl,aj⟩;have jl:=A6 (HX.out.trans aj);clear HC aj;go_wp2_with fail
 go_ret
 exact⟨rfl,jl.out⟩
def Yn (T:Value)(f:Nat→Value)(Ls R:Value)(s:PS):Array Value:=#[T,.int .i64 s.at_,.int .i64 s.mode,.int .i64 s.part.first,.int .i64 s.part.reg,.int .i64 s.part.op,.int .i64 s.part.second,.int .i64 s.part.wait,.int .i64 s.fk,.int .i64 s.fa,
 f 0,f 1,f 2,f 3,f 4,f 5,f 6,f 7,f 8,f 9,f 10,f 11,f 12,f 13,f 14,f 15,f 16,f 17,f 18,f 19,f 20,f 21,f 22,f 23,f 24,f 25,f 26,.int .i64 (s.past.length:Int),Ls,.int .i64 s.hi.at_,.bool s.over,R,.int .i64 s.rat,.int .i64 s.off]
theorem oG (T:Value)(f:Nat→Value)(Ls R:Value)(s:PS)(i:Nat)(hi:i<27):(Yn T f Ls R s)[10+i]? = some (f i):=by
 exact I5
theorem Ea.lit (h:Ea w b cs s):∃A n c L m d R f,cs=Yn (.slice A n c) f (.slice L m d) R s∧Bj w A n c s.tx∧s.hi.lines.length=m:=by
 obtain⟨v0,a0,A,n,c,rfl,t1,_⟩:=h.text;obtain⟨v1,a1,_⟩:=h.row;obtain⟨L,m,d,a2,l1⟩:=h.lines;obtain⟨p3,p4,p5,p6,p7⟩:=h.part;obtain⟨f8,f9⟩:=h.find;refine⟨A,n,c,L,m,d,v1,fun i=>cs[10+i]?.getD undef,?_,t1.ints,l1.lns.len⟩
 apply Array.ext_getElem?
 intro j;by_cases hj:j<44
 ·by_cases ei:10≤j∧j<37
  ·have e:=oG (.slice A n c) (fun i=>cs[10+i]?.getD undef) (.slice L m d) v1 s (j-10) (by omega)
   rw[show 10+(j-10)=j by omega]at e
   rw[e];obtain⟨v,h1,_⟩:=h.regs (j-10) (by omega)
   rw[show 10+(j-10)=j by omega]at h1
   rw[h1]
   rfl
  ·have hc:j=0∨j=1∨j=2∨j=3∨j=4∨j=5∨j=6∨j=7∨j=8∨j=9∨j=37∨j=38∨j=39∨j=40∨j=41∨j=42∨j=43:=by omega
   rcases hc with rfl|rfl|rfl|rfl|rfl|rfl|rfl|rfl|rfl|rfl|rfl|rfl|rfl|rfl|rfl|rfl|rfl
   ·exact a0
   ·exact h.at_
   ·exact h.mode
   ·exact p3
   ·exact p4
   ·exact p5
   ·exact p6
   ·exact p7
   ·exact f8
   ·exact f9
   ·exact h.past
   ·exact a2
   ·exact h.where_
   ·exact h.over
   ·exact a1
   ·exact h.rat
   ·exact h.off
 ·rw[Tg (by rw[h.size];omega),Tg (show(Yn _ _ _ _ _).size≤j from(show 44≤j by omega))]
def S0:ByteArray:=⟨#[97,98,32,99,100,27,48,100,119]⟩
def S1:ByteArray:=⟨#[117]⟩
def S2:ByteArray:=⟨#[46,13]⟩
theorem J4d:Kx 5 10=Ka c0 0 (List.replicate 10 32) 0 []:=rfl
theorem m0:Dh [] (Ap S0)=⟨[],[97,98,32,99,100,27,48,100,119]⟩:=by kernel_rfl
theorem m1:Dh [] (Ap S1)=⟨[],[117]⟩:=by kernel_rfl
theorem m2:Dh [] (Ap S2)=⟨[],[46,13]⟩:=by kernel_rfl
theorem rX {c c':Cr}{S:ByteArray}(hm:Dh [] (Ap S)=⟨[],ks⟩)(h:Gc { c with told:=[] } ks c')(o:Int)(r:List Int)(ra:Int)(vi:List Int):∃o' r' CG vi',Cj (Ka c o r ra vi) S=Ka c' o' r' CG vi':=by
 have e1:Ce (Ka c o r ra vi) []=Ka { c with told:=[] } o r ra []:=rfl;have e2:Cj (Ka c o r ra vi) S=Bq (Ce (Ka c o r ra vi) []) ks:=by
  unfold Cj;rw[show(Ka c o r ra vi).pend=[]from rfl,hm]
 rw[e2,e1];exact h o r ra []
theorem J6u:∃o r ra vi,L8 (Kx 5 10) [S0] 1=Ka c9 o r ra vi:=by
 have e:L8 (Kx 5 10) [S0] 1=Cj (Kx 5 10) S0:=by unfold L8;simp only[List.take_succ_cons,List.take_zero,List.foldl_cons,List.foldl_nil]
 rw[e,J4d];exact rX (c:=c0) m0 J2q _ _ _ _
theorem J6n:S9 5 10∧∀j,j<1→Uj (Kx 5 10) [S0] j:=by
 refine⟨by unfold S9;decide,fun j hj=>?_⟩
 obtain rfl:j=0:=by omega
 exact⟨by unfold L8;simp only[List.take_zero,List.foldl_nil];rfl,show S0.size≤4096 by decide⟩
theorem Xs (A:Option Addr)(n c:Nat)(f:Nat→Value)(Ls R:Value)(s:PS)(u:World):(Instr.field 43 (.agg (Yn (.slice A n c) f Ls R s)) 0).run prog u=.ok (.agg #[.slice A n c,s.at_]) u:=by kernel_rfl
theorem eW (T:Value)(f:Nat→Value)(L:Option Addr)(m d:Nat)(R:Value)(s:PS)(u:World):(Instr.field 43 (.agg (Yn T f (.slice L m d) R s)) 6).run prog u=.ok (.slice L m d) u:=by kernel_rfl
theorem Xq (A:Option Addr)(n c:Nat)(x:Int)(u:World):(Instr.field 32 (.agg #[.slice A n c,x]) 0).run prog u=.ok (.slice A n c) u:=by kernel_rfl
theorem Zp {p N:Nat}{c c':Cr}{S:ByteArray}{o ra:Int}{r vi:List Int}(hm:Dm w col p v (Ka c o r ra vi))(hs:L6 10 N (Ka c o r ra vi))(hN:N≤1900000)(hS:S.size≤4096)(hmc:Dh [] (Ap S)=⟨[],ks⟩)(j8:Gc { c with told:=[] } ks c'):
 Calls prog 18 #[.pointer (some ⟨p,0,none⟩),.string S] w fun e w'=>∃col' v' E n k S2 n2 k2 o' r' CG vi',e=.returned (.tuple #[.slice E n k,.slice S2 n2 k2,(0:Int)])∧Dm w' col' p v' (Ka c' o' r' CG vi')∧L6 10 (N+(S.size+1)) (Ka c' o' r' CG vi')∧Km w col w' col'∧c'.told.length=n∧lW w' E n k c'.told:=by
 obtain⟨q1,_,_,q4⟩:=hs.feed (b:=S) hN hS;obtain⟨o',r',CG,vi',e1⟩:=rX hmc j8 o r ra vi;refine(Wf (b:=S) hm rfl hs.pend hs.pend.lt hS q4).mono ?_
 rintro e w' ⟨col',v',rfl,jf,SC,_⟩;rw[show Bq (Ce (Ka c o r ra vi) (Dh (Ka c o r ra vi).pend (Ap S)).ah) (Dh (Ka c o r ra vi).pend (Ap S)).out=Ka c' o' r' CG vi' from e1]at jf
 rw[e1]at q1;obtain⟨E,n,k,xs,ob,hO,hl,_,hD⟩:=jf.told;obtain⟨S2,n2,k2,GL,_⟩:=jf.vis;have ET:EvR w' 0 (.slice E n k) c'.told:=⟨E,n,k,xs,rfl,hO,hl,hD.here⟩;obtain⟨E',n',k',e2,h2⟩:=ET.v;injection e2 with x1 x2 x3;subst x1 x2 x3;exact⟨col',v',E,n,k,S2,n2,k2,o',r',CG,vi',by rw[ob,GL],jf,q1,SC,hl,h2⟩
theorem sK (w:World):Calls prog 9 #[] w fun e w'=>e=.returned (.bool true)∧An w w':=by
 have jd:=An.alloc w (.cells #[.string S0] 9);have rg:Rd (w.alloc (.cells #[.string S0] 9)) 1 (some ⟨w,0,none⟩) 1 1 ([S0].map Value.string):=by
  refine⟨rfl,Nat.le_refl _,by unfold maxLen;omega,fun _=>⟨_,rfl,fun j u hj=>?_⟩⟩
  have e1:(⟨w,0,none⟩:Addr).add j=⟨w,j,none⟩:=by simp[Addr.add_lit]
  rw[e1,(Aq.new w 9 #[.string S0]).cell j]
  simpa using hj
 have hF:=rY (most:=5) (W:=10) rg (fun i hi _=>Ar (J2y [S0] hi) (show bU [S0] 1≤1900000 from by unfold bU gB;decide))
 rw[show(10:Int).toNat=10 from rfl]at hF
 have HF:=A6 hF;clear hF;have HXA:=A6 jd;clear rg jd;go_enter func9,ntmps9
 go_wp2_with fail
 refine HF.out.mono ?_
 rintro e w1 ⟨aj,⟨_,_,cw⟩|⟨du,_⟩⟩
 rotate_left 1
 ·exact absurd J6n du
 obtain⟨p,col,v,E,S,rfl,hm,hs,hc,hh⟩:=cw;obtain⟨o,r,ra,vi,de⟩:=J6u;have ET:xM (Kx 5 10) [S0] 1=[]:=by
  show []++(L8 (Kx 5 10) [S0] 1).told=[]
  rw[de];rfl
 rw[de]at hm hs;obtain⟨A1,n1,k1,xs,F,rfl,_,ep,_⟩:=hh.ev;obtain⟨A2,n2,k2,rfl,_⟩:=hh.vi;rw[ET]at ep;have ep:n1=0:=ep.symm;subst ep;have jl:=A6 (HXA.out.trans aj);have mi:=A6 hm;have uw:=A6 hs;have jt:Hid (∀k,col k≠0→w.heap.size≤k):=A6 fun k hk=>Ar HXA.out.hsize (hc k hk)
 have oz:=A6 (Ks hm (show([99,100]:List Int).length≤200 by decide) (show([]:List (List Int)).length≤1000 by decide))
 clear hm hs hc hh aj HF de ET;go_wp2_with fail
 refine oz.out.mono ?_
 rintro e w2 ⟨cs,rfl,hL,au⟩;obtain⟨A,n,c,L,m,d,R,f,rfl,hI,IT⟩:=hL.lit;have TK:=A6 (Wh (s:=⟨#[99,100]⟩) (show Bj w2 A n c ((Ap ⟨#[99,100]⟩).map Int.ofNat)from hI))
 have pu:=A6 au;have j7:=Xs A n c f (.slice L m d) R (Ka c9 o r ra vi);have ne:=Xq A n c (Ka c9 o r ra vi).at_;clear hL hI IT au oz;go_wp2_with fail
 refine TK.out.mono ?_
 rintro e w3 ⟨rfl,cu⟩;have rx:=A6 (Zp (mi.out.ext (pu.out.trans cu)) uw.out (by decide) (show S1.size≤4096 by decide) m1 J2p)
 have gu:=A6 (jl.out.trans (pu.out.trans cu));clear j7 ne cu TK pu;go_wp2_with fail
 refine rx.out.mono ?_
 rintro e w4 ⟨col4,v4,E4,n4,k4,F4,m4,l4,o4,r4,ra4,vi4,rfl,kf,my,p9,ZJ,_⟩;have ZJ:n4=0:=ZJ.symm;subst ZJ;have NI:Hid (∀k,col4 k≠0→w.heap.size≤k):=A6 fun k hk=>by
  rcases Nat.lt_or_ge k w3.heap.size with h1|h1
  ·exact jt.out k (p9.2 k h1 hk)
  ·exact Ar gu.out.hsize h1
 have jy:Hid (An w w4):=A6 (p9.1.to_ext gu.out fun k hk hM=>absurd (jt.out k hM.1) (by omega))
 have su:=A6 kf;have AO:=A6 my;have JW:=A6 (Ks kf (show Qs.length≤200 by decide) (show([]:List (List Int)).length≤1000 by decide))
 clear kf my p9 rx mi uw jt jl;go_wp2_with fail
 refine JW.out.mono ?_
 rintro e w5 ⟨cs5,rfl,Oz,ft⟩;obtain⟨A5,n5,ZK,L5,m5,d5,R5,f5,rfl,hI5,_⟩:=Oz.lit;have O8:=A6 (Wh (s:=⟨#[97,98,32,99,100]⟩) (show Bj w5 A5 n5 ZK ((Ap ⟨#[97,98,32,99,100]⟩).map Int.ofNat)from hI5))
 have ZL:=A6 ft;have j7:=Xs A5 n5 ZK f5 (.slice L5 m5 d5) R5 (Ka d1 o4 r4 ra4 vi4);have ne:=Xq A5 n5 ZK (Ka d1 o4 r4 ra4 vi4).at_;clear Oz hI5 ft JW;go_wp2_with fail
 refine O8.out.mono ?_
 rintro e w6 ⟨rfl,gr⟩;have PA:=A6 (Zp (su.out.ext (ZL.out.trans gr)) AO.out (by decide) (show S2.size≤4096 by decide) m2 J2o)
 have dv:=A6 (jy.out.trans (ZL.out.trans gr));clear j7 ne gr O8 ZL;go_wp2_with fail
 refine PA.out.mono ?_
 rintro e w7 ⟨col7,v7,E7,n7,k7,F7,m7,l7,o7,r7,ra7,vi7,rfl,vp,Ir,JY,TL,PB⟩;have TL:n7=1:=TL.symm;subst TL;obtain⟨ad,S7,q7,z7,rfl,g0,g1,gI7⟩:=PB.at_ (k:=0) (by decide)
 have HX7:Hid (An w w7):=A6 (JY.1.to_ext dv.out fun k hk hM=>absurd (NI.out k hM.1) (by omega))
 have HL7:Hid (∀wq,An w7 wq→_):=A6 fun wq he=>Ks (vp.ext he) (show([]:List Int).length≤200 by decide) (show([[99,100]]:List (List Int)).length≤1000 by decide)
 have PC:=A6 (Wh (s:=⟨#[99,100]⟩) (show Bj w7 S7 q7 z7 ((Ap ⟨#[99,100]⟩).map Int.ofNat)from gI7))
 have had:ad.add (0*2)=ad:=by first|exact Addr.add_zero ad|(obtain⟨b9,o9,e9⟩:=ad;cases e9<;>simp[Addr.add])
 rw[had]at g0 g1;have g0:w7.cell? ad=some (.int .i64 2):=g0;clear vp Ir JY PB gI7 PA su AO NI jy;clear TL;go_wp2_with fail
 refine PC.out.mono ?_
 rintro e w8 ⟨rfl,rm⟩;have zj:=A6 rm;clear g0 g1 rm PC;go_wp2_with fail
 refine(HL7.out w8 zj.out).mono ?_
 rintro e w9 ⟨cs9,rfl,hL9,jK⟩;obtain⟨A9,n9,c9',L9,m9,d9,R9,f9,rfl,_,IC⟩:=hL9.lit;have IC:m9=1:=IC.symm;subst IC;have j7:=eW (.slice A9 n9 c9') f9 L9 1 d9 R9 (Ka d3 o7 r7 ra7 vi7);have nj:=A6 (HX7.out.trans (zj.out.trans jK));clear hL9 jK HL7;go_wp2_with fail
 go_ret
 exact⟨rfl,nj.out⟩
theorem Ea.same {t:List (Int×List Int)}{u:List Int}(h:Ea w b cs { s with told:=t,vis:=u }):Ea w b cs s:=
 ⟨h.size,h.text,h.at_,h.mode,h.part,h.find,h.regs,h.past,h.lines,h.where_,h.over,h.row,h.rat,h.off⟩
theorem J5s (s0:PS)(a:ByteArray):L8 s0 [a] 1=Cj s0 a:=by unfold L8;simp only[List.take_succ_cons,List.take_zero,List.foldl_cons,List.foldl_nil]
theorem yM {g n:Nat}{ts:List ByteArray}(hb:Aq w g 9 (ts.map Value.string).toArray)(hn:ts.length=n)(hm:n≤1000):Rd w 1 (some ⟨g,0,none⟩) n n (ts.map Value.string):=by
 refine⟨by rw[List.length_map];omega,Nat.le_refl _,by unfold maxLen;omega,fun _=>⟨_,rfl,fun j u hj=>?_⟩⟩
 have e1:(⟨g,0,none⟩:Addr).add j=⟨g,j,none⟩:=by simp[Addr.add_lit]
 rw[e1,hb.cell j]
 simpa using hj
theorem Lq.evs {E S:Value}{evs:List (Int×List Int)}{vis:List Int}(h:Lq w b col E S evs vis):(∃A n c,E=.slice A n c∧lW w A n c evs)∧∃A n c,S=.slice A n c∧Bj w A n c vis:=by
 obtain⟨A,n,c,xs,F,rfl,h1,h2,h3,_⟩:=h.ev;obtain⟨A',n',c',rfl,h4⟩:=h.vi;have ET:EvR w b (.slice A n c) evs:=⟨A,n,c,xs,rfl,h1,h2,h3.here⟩;exact⟨ET.v,A',n',c',rfl,h4.ints⟩
theorem Ea.win {w w':World}(h:Ea w b cs s)(hw:∀k,b≤k→k<w.heap.size→w'.heap[k]? = w.heap[k]?):Ea w' b cs s:=
 {
  h with
  text:=let ⟨v,h1,h2⟩:=h.text;⟨v,h1,h2.win hw⟩
  regs:=fun i hi=>let ⟨v,h1,h2⟩:=h.regs i hi;⟨v,h1,h2.win hw⟩
  lines:=let ⟨A,n,c,h1,h2⟩:=h.lines;⟨A,n,c,h1,h2.win hw⟩
  row:=let ⟨v,h1,h2⟩:=h.row;⟨v,h1,h2.win hw⟩ }
theorem oM (w:World)(cs:Array Value):An w ((w.alloc (.cells Dx 43)).setRow w.heap.size cs)∧Aq ((w.alloc (.cells Dx 43)).setRow w.heap.size cs) w.heap.size 43 cs:=
 ⟨(An.alloc w (.cells Dx 43)).setRow (Nat.le_refl _) cs,(Aq.new w 43 Dx).setRow cs⟩
def J6r (w:World)(l:List Int)(e:Ending)(w':World):Prop:=∃(t:ByteArray) (b:Bool),e=.returned (.tuple #[.string t,b])∧An w w'∧(b=true→(∀x∈l,Df x)∧t=Em (Hs l))
theorem kN {l:List Int}{n c:Nat}(hl:Bj w A n c l)(hn:n≤17592186043904):
 Calls prog 24 #[.slice A n c] w (J6r w l):=by
 have HT:=A6 (Z0 hl hn);clear hl;go_enter func24,ntmps24
 go_wp2_with fail
 refine HT.out.mono ?_
 rintro e w1 ⟨h1,h2,he⟩;by_cases h:∀x∈l,Df x
 ·obtain rfl:=h1 h
  go_wp2_with fail
  go_ret2
  exact⟨_,_,rfl,he,fun _=>⟨h,rfl⟩⟩
 ·obtain rfl:=h2 h
  go_wp2_with fail
  go_ret2
  exact⟨_,_,rfl,he,fun e=>by cases e⟩
def J5j (w:World)(s:PS)(e:Ending)(w':World):Prop:=∃b:Bool,e=.returned (.bool b)∧An w w'∧(b=true→s.mode=0∧s.part=Pt.zero∧s.over=false)
theorem Wo {p:Nat}(hm:Dm w col p v s)(bD:s.tx.length≤200)(te:s.hi.lines.length≤1000):
 Calls prog 21 #[.pointer (some ⟨p,0,none⟩)] w (J5j w s):=by
 have HL:=A6 (Ks hm bD te);clear hm bD te;go_enter func21,ntmps21
 go_wp2_with fail
 refine HL.out.mono ?_
 rintro e w1 ⟨cs,rfl,hL,aj⟩;have oz:=A6 hL;have QX:=A6 aj;clear hL aj HL;go_upto_region 2 with(refine wpList_store_row rfl 43 (.tmp 3) (.tmp 5) rfl w1.heap.size cs rfl rfl 43 Dx (Aq.new w1 _ Dx) (Jh oz.out.size) (by rw[oz.out.size];rfl) oz.out.one ?_)
 change Code.wp _ _ _ _ ((w1.alloc (.cells Dx 43)).setRow w1.heap.size cs);obtain⟨hx,hb⟩:=oM w1 cs;generalize (w1.alloc (.cells Dx 43)).setRow w1.heap.size cs=W at*;generalize w1.heap.size=g at*;have HX:=A6 (QX.out.trans hx);have h:=oz.out;obtain⟨p3,p4,p5,p6,p7⟩:=h.part;have c2:=(hb.cell 2).trans h.mode;have c3:=(hb.cell 3).trans p3;have c4:=(hb.cell 4).trans p4;have c5:=(hb.cell 5).trans p5;have c6:=(hb.cell 6).trans p6;have c7:=(hb.cell 7).trans p7;have c40:=(hb.cell 40).trans h.over;have hpz:s.part=⟨s.part.first,s.part.reg,s.part.op,s.part.second,s.part.wait⟩:=rfl;generalize s.part.first=x0 at*;generalize s.part.reg=x1 at*;generalize s.part.op=x2 at*;generalize s.part.second=x3 at*;generalize s.part.wait=x4 at*;have HPz:=A6 hpz;clear h hb hx p3 p4 p5 p6 p7 oz QX hpz;by_cases gz:s.mode=0
 case neg=>
  have LS:(s.mode==0)=false:=by simpa using gz
  exact I82
 rw[gz]at c2;by_cases hz:x0=0∧x1=0∧x2=0∧x3=0∧x4=0
 case neg=>
  rcases ne5 hz with ai|⟨rfl,ai⟩|⟨rfl,rfl,ai⟩|⟨rfl,rfl,rfl,ai⟩|⟨rfl,rfl,rfl,rfl,ai⟩
  all_goals
   have kl:=beq_eq_false_iff_ne.2 ai;exact I82
 obtain⟨rfl,rfl,rfl,rfl,rfl⟩:=hz;cases gy:s.over with
 |true=>
  rw[gy]at c40;exact I82
 |false=>
  rw[gy]at c40;go_wp2_with fail
  go_ret
  exact⟨_,rfl,HX.out,fun _=>⟨gz,HPz.out,gy⟩⟩
theorem rB (hp:s.pend=[])(h:∀x∈ks,Df x):Cj s (Em (Hs ks))=Bq (Ce s []) ks:=by
 have ae:=Sf h;have hm:Dh s.pend (Ap (Em (Hs ks)))=⟨[],ks⟩:=by
  unfold Dh;rw[hp,Jg ae,Wd ks [] h]
  rfl
 unfold Cj;rw[hm]
theorem dK:∀(l:List Int),(Hs l).length≤4*l.length:=by
 intro l
 induction l with
 |nil=>exact Nat.le_refl _
 |cons x l ih=>
  have e:Hs (x::l)=Gz x.toNat++Hs l:=rfl;have:=eX x.toNat;rw[e,List.length_append,List.length_cons];omega
theorem Yt (w:World):Calls prog 23 #[.agg #[c.count,c.reg,c.op,c.verb,c.arg]] w fun e w'=>∃(O:Option Addr) (q d:Nat) (x:Int) (l:List Int),e=.returned (.tuple #[.slice O q d,x])∧An w w'∧Bj w' O q d l∧l.length≤8∧(x=0→l=En c∧Fw (En c)=⟨[c],Pt.zero,0⟩):=by
 obtain⟨f,r,o,v,a⟩:=c;refine(Yu (f:=f) (r:=r) (o:=o) (v:=v) (a:=a) w).mono ?_
 rintro e w' ⟨he,⟨k,rfl,hk,_⟩|⟨O,q,d,rfl,hO,ax⟩⟩
 ·exact⟨_,_,_,_,[],rfl,he,Bj.none_ w',by simp,fun e=>absurd e hk⟩
 ·exact⟨_,_,_,_,_,rfl,he,hO.ints,Q4 _,fun _=>⟨rfl,ax⟩⟩
def Fb (c:Cm):ByteArray:=Em (Hs (En c))
def Pg (ty:List Int):ByteArray:=Em (Hs ty)
def Pd:ByteArray:=⟨#[27]⟩
def qW (v:Int):Prop:=v=120∨v=88∨v=115∨v=83∨v=67∨v=68∨v=112∨v=80∨v=126∨v=114∨v=105∨v=73∨v=97∨v=65∨v=82
def mD (s:PS)(c:Cm)(ty:List Int)(t:ByteArray)(s':PS):Prop:=
 c.op≠121∧(c.op≠0∨qW c.verb)∧(∀x∈En c,Df x)∧Fw (En c)=⟨[c],Pt.zero,0⟩∧Typ ty∧s'.mode=0∧s'.part=Pt.zero∧s'.over=false∧s'.told=[]∧
 (
  ((Cj s (Fb c)).mode=0∧t=Fb c∧s'=Cj s (Fb c))∨
  ((Cj s (Fb c)).mode≠0∧(∀x∈ty,Df x)∧(Pg ty).size≤1000∧t=Fb c++Pg ty++Pd∧(Cj s (Fb c)).told=[]∧s'=Cj (Cj s (Fb c)) (Pg ty++Pd)))
def yE (w:World)(col:Nat→Nat)(p N W:Nat)(s:PS)(c:Cm)(ty:List Int)(e:Ending)(w':World):Prop:=
 ∃(t:ByteArray) (b:Bool) (col':Nat→Nat) (v':SV) (s':PS) (N':Nat),e=.returned (.tuple #[.string t,b])∧Dm w' col' p v' s'∧Km w col w' col'∧L6 W N' s'∧N'≤N+5200∧(b=true→mD s c ty t s')
def J7g (w:World)(col:Nat→Nat)(p W N:Nat)(s:PS)(u:Value)(w':World):Prop:=∃(col':Nat→Nat) (v':SV) (E:Option Addr) (n k:Nat) (xs:List Value) (S2:Option Addr) (n2 k2:Nat),
 u=.tuple #[.slice E n k,.slice S2 n2 k2,(0:Int)]∧Dm w' col' p v' s∧Km w col w' col'∧L6 W N s∧(∀k,k<w.heap.size→col k=4∨col k=5∨col k=6→w'.heap[k]? = w.heap[k]? ∧ col' k=0)∧
 Bd w' 0 48 2 E n k xs∧s.told.length=n∧(∀g,(Value.slice E n k).ownBlock=some g→col' g=4)∧(∀u∈xs,u.oneCell'=true)∧n≤8000000000
theorem lI (hm:Dm w col p v s)(hs:L6 W N s)(hN:N≤1800000)(ho:s.over=false)(ht:t.size≤4096):
 Calls prog 18 #[.pointer (some ⟨p,0,none⟩),.string t] w fun e w'=>∃u,e=.returned u∧J7g w col p W (N+(t.size+1)) (Cj s t) u w':=by
 have N0:=trivial;exact K42
theorem Xr (T:Value)(f:Nat→Value)(Ls R:Value)(s:PS)(u:World):(Instr.field 43 (.agg (Yn T f Ls R s)) 1).run prog u=.ok (.int .i64 s.mode) u:=by kernel_rfl
theorem Jq {W N:Nat}(h:L6 W N s):s.tx.length≤200∧s.hi.lines.length≤1000:=
 ⟨h.inv.choose_spec.line.len,by have h1:=h.inv.choose_spec.hist;have:=h1.len;have:=h1.hi;omega⟩
theorem lJ {w0 w1:World}(h:An w0 w1):An { w1 with heap:=#[] } w1:=⟨rfl,rfl,rfl,Nat.zero_le _,fun k hk=>absurd hk (Nat.not_lt_zero k)⟩
theorem Sy (s:PS)(c:Cm):(doS s c).over=s.over:=by
 unfold doS;cases L2 s.tx s.rl s.at_ s.fk s.fa c with
 |none=>rfl
 |some d=>
  show(Hq s c d).over=_
  unfold Hq L3 Fe;split<;>(split<;>rfl)
theorem Vi (h:c.op≠0∨qW c.verb):Di s c=doS s c:=by
 unfold Di;by_cases ij:c.op≠0
 ·rw[if_pos ij]
 ·have hv:=h.resolve_left ij
  unfold qW at hv;rw[if_neg ij,if_neg (by omega),if_neg (by omega),if_neg (by omega),if_neg (by omega),if_neg (by omega),if_neg (by omega),if_neg (by omega),if_neg (by omega)]
theorem pJ {x:Int}(h:Df x):∃b l,Gz x.toNat=b::l∧(b<128∨191<b):=by
 unfold Df at h;unfold Gz;split
 ·exact⟨_,_,rfl,.inl ‹_›⟩
 split
 ·exact⟨_,_,rfl,.inr (by omega)⟩
 split
 ·exact⟨_,_,rfl,.inr (by omega)⟩
 ·exact⟨_,_,rfl,.inr (by omega)⟩
theorem uC {ah:List Nat}(ha:ah≠[])(hk:ks≠[])(h:∀x∈ks,Df x):Dh ah (Hs ks)=⟨[],65533::ks⟩:=by
 have hl:ah.length≠0:=fun e=>ha (Cz e)
 have hr:=Wd ks [65533] h;cases ks with
 |nil=>exact absurd rfl hk
 |cons x ks=>
  obtain⟨b,l,e,hb⟩:=pJ (h x List.mem_cons_self);have e2:Hs (x::ks)=b::(l++Hs ks):=by
   show Gz x.toNat++Hs ks=_
   rw[e];rfl
  rw[e2,Db]at hr;unfold Dh;rw[e2,Db];have hnf:¬Eo ah b:=fun hf=>by
   unfold Eo at hf;have:=Vq (gN ah 0);split at hf<;>omega
  have e3:Kw ⟨ah,[]⟩ b=Kw ⟨[],[65533]⟩ b:=by
   unfold Kw;rw[if_pos ⟨hl,hnf⟩,if_neg (by simp)]
   unfold Yb;rw[if_neg hl]
   rfl
  rw[e3,hr]
  rfl
theorem J7a (hp:s.pend≠[])(hk:ks≠[])(h:∀x∈ks,Df x):Cj s (Em (Hs ks))=Bq (Ce s []) (65533::ks):=by
 have ae:=Sf h;have hm:Dh s.pend (Ap (Em (Hs ks)))=⟨[],65533::ks⟩:=by rw[Jg ae,uC hp hk h]
 unfold Cj;rw[hm]
theorem cV (hq:s.mode=0∧s.part=Pt.zero∧s.over=false)(hp:s.pend≠[])(h:∀x∈En c,Df x)(hc:Fw (En c)=⟨[c],Pt.zero,0⟩)(yq:c.op≠0∨qW c.verb):
 (Cj s (Fb c)).over=false∧(Cj s (Fb c)).told≠[]:=by
 have ai:En c≠[]:=fun e=>by rw[e]at hc;cases hc
 have e0:Cj s (Fb c)=Bq (E0 (Ce s []) 65533) (En c):=J7a hp ai h;have e1:E0 (Ce s []) 65533=Jo (Ec { Ce s []with part:=Pt.zero }):=by
  have ho:(Ce s []).over=false:=hq.2.2;have hm:(Ce s []).mode=0:=hq.1;have ht:Bp (Ce s []).part 65533=Ep:=by
   show Bp s.part 65533=_
   rw[hq.2.1];rfl
  unfold E0;rw[if_neg (by rw[ho];decide)]
  unfold Ez;rw[if_neg (by decide),if_neg (by rw[hm];decide),if_neg (by decide),if_neg (by decide),if_neg (by rw[hm];decide)]
  unfold Pk;rw[ht]
  rfl
 rw[e0,e1];have h1:=Sg (s:=Jo (Ec { Ce s []with part:=Pt.zero })) hc hq.1 rfl hq.2.2;rw[Vi yq,Sm]at h1;generalize Bq (Jo (Ec { Ce s []with part:=Pt.zero })) (En c)=s1 at*;refine⟨?_,fun e=>?_⟩
 ·show(Cg s1).over=false
  rw[h1,Sy];exact hq.2.2
 ·have e:(Cg s1).told=[]:=e
  rw[h1]at e;rcases J5a (Cg (Ec { Ce s []with part:=Pt.zero })) c with h2|⟨_,h2,_⟩|⟨_,h2⟩
  all_goals
   rw[h2]at e;cases e
theorem jR {w0 w:World}{f r o vb g:Int}{n k:Nat}(sw:c=⟨f,r,o,vb,g⟩)(hm:Dm w col p v s)(hs:L6 W N s)(hN:N≤1790000)
 (hq:s.mode=0∧s.part=Pt.zero∧s.over=false) (hX:An w0 w) (hc:∀k,col k≠0→w0.heap.size≤k) (hT:Bj w0 A n k ty) (hn:n≤17592186043904):
 Calls prog 22 #[.pointer (some ⟨p,0,none⟩),.agg #[f,r,o,vb,g],.slice A n k] w (yE w col p N W s c ty):=by
 obtain⟨i1,hj,OP,um,BM⟩:=info_parts Vf;have HJ:=A6 hj;have lb:=A6 (Aq.new w 62 #[.int .i64 f,.int .i64 r,.int .i64 o,.int .i64 vb,.int .i64 g]);have oq:=A6 (An.alloc w (.cells #[f,r,o,vb,g] 62));have HWr:Hid (∀wq,_):=A6 fun(wq:World)=>Yt (c:=⟨f,r,o,vb,g⟩) wq
 have HM:=A6 hm;have HS:=A6 hs;have HQ:=A6 hq;have HX:=A6 hX;have HC:=A6 hc;have HT:=A6 hT;clear hm hs hq hX hc hT hj;go_enter func22,ntmps22
 go_upto_region 1 with fail
 change Code.wp _ _ _ _ (w.alloc (.cells #[f,r,o,vb,g] 62));generalize w.alloc (.cells #[f,r,o,vb,g] 62)=wa at*;have ak:=lb.out;obtain⟨c0,c1,c2,c3,c4⟩:=(⟨ak.cell 0,ak.cell 1,ak.cell 2,ak.cell 3,ak.cell 4⟩:_∧_∧_∧_∧_);simp only[Ah,Af,Ag]at c0 c1 c2 c3 c4;clear ak;go_wp2_with fail
 refine(HWr.out wa).mono ?_
 rintro e w3 ⟨O,q,d,x,l,rfl,cu,hI,TM,lg⟩;have PD:=A6 (kN hI (by rw[←hI.len];omega))
 have PE:=A6 lg;have AV:=A6 (oq.out.trans cu);have pp:=A6 (lb.out.ext cu);clear hI cu c0 c1 c2 c3 c4 lg HWr lb;go_wp2_with fail
 refine PD.out.mono ?_
 rintro e w4 ⟨t,b,rfl,ik,EF⟩;have rb:=A6 (AV.out.trans ik);have qc:=A6 (pp.out.ext ik);have TN:=A6 EF;clear ik EF AV pp PD;have uz:Hid (yE w col p N W s c ty (.returned (.tuple #[.string ⟨#[]⟩,false])) w4):=A6 ⟨_,_,col,v,s,N,rfl,HM.out.ext rb.out,⟨rb.out.alt _,fun _ _ h=>h,fun _ _ h=>h⟩,HS.out,by omega,fun e=>by cases e⟩
 by_cases am:x=0
 case neg=>
  have GB:(x !=0)=true:=by simpa using am
  have bn:=qc.out.cell 2;go_wp2_with fail
  go_ret2
  exact uz.out
 subst am;cases b with
 |false=>
  go_wp2_with fail
  go_ret2
  exact uz.out
 |true=>
 have AR:=A6 (mL (HT.out.ext (HX.out.trans rb.out)));go_wp2_with fail
 refine AR.out.mono ?_
 rintro e w5 ⟨b2,rfl,rfl,Ib⟩;have PF:=A6 Ib;clear Ib AR;cases b2 with
 |false=>
  go_wp2_with fail
  go_ret2
  exact uz.out
 |true=>
 have q2:=qc.out.cell 2;have q3:=qc.out.cell 3;simp only[Ah,Af,Ag]at q2 q3;by_cases ho:o=121
 case pos=>
  subst ho;go_wp2_with fail
  go_ret2
  exact uz.out
 have ke:(o==121)=false:=by simpa using ho
 obtain⟨gj,rfl⟩:=TN.out (by first|rfl|trivial)
 obtain⟨rfl,ax⟩:=PE.out (by first|rfl|trivial)
 rw[←sw]at gj ax;have HH:=A6 (Au ho (Au gj (Au ax (PF.out (by first|rfl|trivial)))))
 clear TN PE PF gj ax ho TM;go_upto_block 0 with fail
 go_cut [51] (fun s51 wx=>(o≠0∨qW vb)∧wx=w5)
 case first=>
  by_cases DT:qW vb
  ·have H15:=A6 DT
   unfold qW at DT;rcases DT with rfl|rfl|rfl|rfl|rfl|rfl|rfl|rfl|rfl|rfl|rfl|rfl|rfl|rfl|rfl
   all_goals
    go_wp2_with fail
    go_meet
    exact⟨.inr H15.out,rfl⟩
  ·have PG:=DT
   unfold qW at PG;obtain⟨⟨v1,v2,v3,v4,v5⟩,⟨v6,v7,v8,v9,v10⟩,v11,v12,v13,v14,v15⟩:((vb==120)=false∧(vb==88)=false∧(vb==115)=false∧(vb==83)=false∧(vb==67)=false)∧((vb==68)=false∧(vb==112)=false∧(vb==80)=false∧(vb==126)=false∧(vb==114)=false)∧(vb==105)=false∧(vb==73)=false∧(vb==97)=false∧(vb==65)=false∧(vb==82)=false:=by
    simp only[beq_eq_false_iff_ne,ne_eq];omega
   clear DT PG;by_cases ho:o=0
   ·subst ho
    go_wp2_with fail
    go_ret2
    exact uz.out
   ·have qn:(o==0)=false:=by simpa using ho
    have HO:=A6 ho;clear ho;go_wp2_with fail
    go_meet
    exact⟨.inl HO.out,rfl⟩
 case rest=>
  obtain⟨yq,rfl⟩:=hcut;subst sw;have iw:(Fb ⟨f,r,o,vb,g⟩).size≤40:=by
   unfold Fb;rw[←F5,Jg (Sf HH.out.2.1)];have h1:=dK (En ⟨f,r,o,vb,g⟩);have h2:=Q4 ⟨f,r,o,vb,g⟩;omega
  have ip:=A6 (lI (t:=Fb ⟨f,r,o,vb,g⟩) (HM.out.ext rb.out) HS.out (by omega) HQ.out.2.2 (by omega))
  have MJ:=A6 yq;have u7:=A6 iw;have PH:Hid ((Cj s (Fb ⟨f,r,o,vb,g⟩)).over=false):=A6 (by
   by_cases zx:s.pend=[]
   case neg=>exact(cV HQ.out zx HH.out.2.1 HH.out.2.2.1 yq).1
   unfold Fb;rw[rB zx HH.out.2.1];have h1:=Sg (s:=Ce s []) HH.out.2.2.1 HQ.out.1 HQ.out.2.1 HQ.out.2.2;rw[Vi (c:=⟨f,r,o,vb,g⟩) yq]at h1;have h2:(Bq (Ce s []) (En ⟨f,r,o,vb,g⟩)).over=(doS (Cg (Ce s [])) ⟨f,r,o,vb,g⟩).over:=show(Cg (Bq (Ce s []) (En ⟨f,r,o,vb,g⟩))).over=_ from congrArg PS.over h1
   rw[h2,Sy];exact HQ.out.2.2)
  have HP0:Hid (o≠121∧(o≠0∨qW vb)∧(∀x∈En ⟨f,r,o,vb,g⟩,Df x)∧Fw (En ⟨f,r,o,vb,g⟩)=⟨[⟨f,r,o,vb,g⟩],Pt.zero,0⟩∧Typ ty):=A6 ⟨HH.out.1,MJ.out,HH.out.2.1,HH.out.2.2.1,HH.out.2.2.2⟩;obtain⟨s1,jo⟩:∃x,x=Cj s (Fb ⟨f,r,o,vb,g⟩):=⟨_,rfl⟩;rw[←jo]at ip PH;have uw:=A6 jo;clear iw yq MJ HH uz q2 q3 qc jo;go_wp2_with fail
  refine ip.out.mono ?_
  rintro e w6 ⟨u,rfl,col1,v1,E,n1,k1,xs,S2,n2,k2,rfl,dm,nh,jo,fv,s9,gq,cb,EU,al⟩;have GK:An w0 w6:=nh.1.to_ext (HX.out.trans rb.out) fun k hk hM=>absurd (HC.out k hM.1) (by omega)
  have hT1:Km w col w6 col1:=Km.trans ⟨rb.out.alt _,fun _ _ h=>h,fun _ _ h=>h⟩ nh
  have PI:=A6 (Ks dm (Jq jo).1 (Jq jo).2);have kp:=A6 (Au dm (Au hT1 (Au jo (Au s9 (Au cb EU)))));have TO:=A6 GK;have oz:=A6 gq;clear dm nh jo fv s9 cb EU GK hT1 ip gq;go_wp2_with fail
  refine PI.out.mono ?_
  rintro e w7 ⟨cs,rfl,hL,ni⟩;obtain⟨A4,n4,c4,L4,m4,d4,R4,f4,rfl,_,_⟩:=hL.lit;have j7:=Xr (.slice A4 n4 c4) f4 (.slice L4 m4 d4) R4 s1;have PJ:=A6 ni;clear hL ni PI;have ns:Hid (∀(t:ByteArray) (wq:World),An w6 wq→yE w col p N W s ⟨f,r,o,vb,g⟩ ty (.returned (.tuple #[.string t,false])) wq):=A6 fun t wq he=>
   ⟨_,_,col1,v1,s1,_,rfl,kp.out.1.ext he,⟨kp.out.2.1.1.ext he,kp.out.2.1.2,kp.out.2.1.3⟩,kp.out.2.2.1,by have:=u7.out;omega,fun e=>by cases e⟩
  by_cases dw:s1.mode=0
  case pos=>
   rw[dw]at j7;by_cases ep:n1=0
   case neg=>
    have kl:(((n1:Nat):Int)==0)=false:=by simp;omega
    go_wp2_with fail
    go_ret2
    exact ns.out _ _ PJ.out
   subst ep;have PK:=A6 (Wo (kp.out.1.ext PJ.out) (Jq kp.out.2.2.1).1 (Jq kp.out.2.2.1).2);have MO:=A6 dw;clear dw;go_wp2_with fail
   refine PK.out.mono ?_
   rintro e w8 ⟨qb,rfl,rm,EV⟩;have zj:=A6 (PJ.out.trans rm);have KI:=A6 EV;clear rm EV PK;cases qb with
   |false=>
    exact I110
   |true=>
    go_wp2_with fail
    go_ret2
    obtain⟨z1,z2,z3⟩:=KI.out (by first|rfl|trivial)
    obtain⟨y1,y2,y3,y4,y5⟩:=HP0.out;have uv:s1.told=[]:=Cz oz.out;refine⟨_,_,col1,v1,s1,_,rfl,kp.out.1.ext zj.out,⟨kp.out.2.1.1.ext zj.out,kp.out.2.1.2,kp.out.2.1.3⟩,kp.out.2.2.1,by have:=u7.out;omega,fun _=>⟨y1,y2,y3,y4,y5,z1,z2,z3,uv,.inl ⟨?_,?_,uw.out⟩⟩⟩
    ·rw[←uw.out];exact z1
    ·rfl
  case neg=>
   have LS:(s1.mode !=0)=true:=by simpa using dw
   have PM:=A6 (kN (HT.out.ext (TO.out.trans PJ.out)) (by omega))
   have MO:=A6 dw;clear dw;go_wp2_with fail
   refine PM.out.mono ?_
   rintro e w8 ⟨t3,b3,rfl,rm,EF⟩;have zj:=A6 (PJ.out.trans rm);have TN:=A6 EF;clear rm EF PM;cases b3 with
   |false=>
    exact I110
   |true=>
   by_cases ab:t3.size≤1000
   case neg=>
    have TG:decide ((1000:Int)<(t3.size:Int))=true:=by simp;omega
    exact I110
   have TG:decide ((1000:Int)<(t3.size:Int))=false:=by simp;omega
   have nd:(t3++Pd).size≤1001:=by rw[ByteArray.size_append];have:Pd.size=1:=rfl;omega
   have fu:=A6 (lI (t:=t3++Pd) (kp.out.1.ext zj.out) kp.out.2.2.1 (by have:=u7.out;omega) PH.out (by omega))
   have ru:=A6 (Au ab nd);have h40:(Em (Hs (En ⟨f,r,o,vb,g⟩))).size≤40:=u7.out;clear nd;go_wp2_with fail
   refine fu.out.mono ?_
   rintro e w9 ⟨u,rfl,col2,v2,E2,n3,k3,xs2,S3,n5,k5,rfl,ej,ju,CR,fx,db,uj,bj,sv,ak⟩;have TP:=Bd.ext kp.out.2.2.2.1 zj.out;have CH:Bd w9 0 48 2 E n1 k1 xs:=Bd.same TP fun gg GP=>(fx gg (Bd.blk TP gg GP).2 (.inl (kp.out.2.2.2.2.1 gg GP))).1
   have T8:Km w col w8 col1:=⟨kp.out.2.1.1.ext zj.out,kp.out.2.1.2,kp.out.2.1.3⟩;have T9:=Km.trans T8 ju;have LJ:Hid (∀gg,(Value.slice E n1 k1).ownBlock=some gg→col2 gg=0∧(gg<w.heap.size→col gg≠0∧col gg≠1)):=A6 fun gg GP=>by
    have h4:=kp.out.2.2.2.2.1 gg GP;refine⟨(fx gg (Bd.blk TP gg GP).2 (.inl h4)).2,fun ae=>⟨T8.2 gg ae (by rw[h4];decide),fun e1=>?_⟩⟩
    have:=T8.3 gg ae e1;omega
   have vd:=A6 (Au ej (Au T9 (Au CR (Au uj CH))));have PN:=db.rd;clear ej ju CR fx bj T8 T9 TP uj db fu;go_wp2_with (at_builtin;refine Eh rfl (.tmp 98) (.tmp 99) 24 rfl { w9 with heap:=#[] } 0 48 i1 (.agg #[(0:Int),()]) 2 32 underlying24 HJ.out OP um BM rfl (by decide) E n1 k1 xs rfl CH E2 n3 k3 xs2 rfl PN sv (by unfold maxLen;omega) (by omega) (lJ (An.refl w9)) (Nat.le_refl 0) (Nat.zero_le _) ?_)
   intro A3 c3 w10 cv lz _ _;have EJ:=Gw.of_own CH lz (by decide)
   have ID:Hid (Dm w10 col2 p v2 (Cj s1 (t3++Pd))):=A6 (vd.out.1.alt EJ fun kk _ hM=>(LJ.out kk hM).1)
   have u9:Hid (Km w col w10 col2):=A6 ⟨vd.out.2.1.1.trans EJ fun kk hk hM=>(LJ.out kk hM).2 hk,vd.out.2.1.2,vd.out.2.1.3⟩
   clear CH PN cv lz EJ LJ sv;have PO:Hid (∀(t:ByteArray) (wq:World),An w10 wq→yE w col p N W s ⟨f,r,o,vb,g⟩ ty (.returned (.tuple #[.string t,false])) wq):=A6 fun t wq he=>
    ⟨_,_,col2,v2,_,_,rfl,ID.out.ext he,⟨u9.out.1.ext he,u9.out.2,u9.out.3⟩,vd.out.2.2.1,by have:=u7.out;have:=ru.out.2;omega,fun e=>by cases e⟩
   by_cases jx:n1+n3=0
   case neg=>
    have kl:(((n1:Nat):Int)+((n3:Nat):Int)==0)=false:=by simp;omega
    have jM:(((n1+n3:Nat):Int)==0)=false:=by simp;omega
    go_wp2_with fail
    go_ret2
    exact PO.out _ _ (An.refl _)
   obtain⟨rfl,rfl⟩:n1=0∧n3=0:=by omega
   have PK:=A6 (Wo ID.out (Jq vd.out.2.2.1).1 (Jq vd.out.2.2.1).2);go_wp2_with fail
   refine PK.out.mono ?_
   rintro e w11 ⟨qb,rfl,va,EV⟩;have IE:=A6 va;have KI:=A6 EV;clear va EV PK;cases qb with
   |false=>
    go_wp2_with fail
    go_ret2
    exact PO.out _ _ IE.out
   |true=>
    go_wp2_with fail
    go_ret2
    obtain⟨z1,z2,z3⟩:=KI.out (by first|rfl|trivial)
    obtain⟨y1,y2,y3,y4,y5⟩:=HP0.out;obtain⟨x1,rfl⟩:=TN.out (by first|rfl|trivial)
    have uv:s1.told=[]:=Cz oz.out;have ZM:=Cz vd.out.2.2.2.1;refine⟨_,_,col2,v2,_,_,rfl,ID.out.ext IE.out,⟨u9.out.1.ext IE.out,u9.out.2,u9.out.3⟩,vd.out.2.2.1,by have:=u7.out;have:=ru.out.2;omega,fun _=>⟨y1,y2,y3,y4,y5,z1,z2,z3,ZM,.inr ⟨?_,x1,ru.out.1,?_,?_,?_⟩⟩⟩
    ·rw[←uw.out];exact MO.out
    ·rfl
    ·rw[←uw.out];exact uv
    ·rw[←uw.out];rfl
theorem J1i (h:Fw (En c)=⟨[c],Pt.zero,0⟩)(h1:c.op≠121)(h2:c.op≠0∨qW c.verb):Vk c.op c.verb=true:=by
 have ht:fN c:=sV (En c) c (by rw[h];exact Cw.2 rfl)
 obtain⟨_,_,_,ho,_⟩:=ht;unfold Vk;by_cases h3:c.op=100∨c.op=99
 ·rw[if_pos h3]
 ·rw[if_neg h3,if_neg h1]
  rcases ho with h0|ho
  ·have hv:=h2.resolve_left (fun e=>e h0)
   unfold qW at hv;have:Rv c.verb:=by unfold Rv;omega
   exact decide_eq_true this
  ·have:=Tz ho
   omega
theorem dM {d:Dn}(hc:Vk c.op c.verb=true):(d.md=0→(Hq s c d).last=some (c,[])∧(Hq s c d).now=none)∧(d.md≠0→(Hq s c d).now=some (c,[]))∧(Hq s c d).mode=d.md∧(Hq s c d).told=s.told:=by
 unfold Hq L3 Fe;rw[hc];simp only[if_true];refine⟨fun h=>?_,fun h=>?_,?_,?_⟩
 ·rw[if_pos (show(Gl { Pl s with now:=some (c,[]) } d).mode=0 from h)]
  exact⟨rfl,rfl⟩
 ·rw[if_neg (show ¬(Gl { Pl s with now:=some (c,[]) } d).mode=0 from h)]
  rfl
 ·split<;>rfl
 ·split<;>rfl
theorem sW (h:∀x∈ty,Df x):Ap (Pg ty++Pd)=Hs (ty++[27]):=by
 rw[Wr];unfold Pg;rw[Jg (Sf h)];unfold Hs;rw[List.flatMap_append]
 congr 1
theorem rZ (hp:s.pend=[])(h:∀x∈ty,Df x):Cj s (Pg ty++Pd)=Bq (Ce s []) (ty++[27]):=by
 have h2:∀x∈ty++[27],Df x:=fun x hx=>by
  rcases List.mem_append.1 hx with h1|h1
  ·exact h x h1
  ·rw[Cw.1 h1];decide
 have hm:Dh s.pend (Ap (Pg ty++Pd))=⟨[],ty++[27]⟩:=by
  unfold Dh;rw[hp,sW h,Wd (ty++[27]) [] h2]
  rfl
 unfold Cj;rw[hm]
theorem Zq (hp:s.pend=[])(h:∀x∈ks,Df x):(Cj s (Em (Hs ks))).pend=[]:=by
 rw[rB hp h,M0]
 rfl
theorem wT {s s1:PS}(hq:s.mode=0∧s.part=Pt.zero∧s.over=false)(h:mD s c ty t s1):s.pend=[]:=by
 obtain⟨h1,h2,h3,h4,_,_,_,_,t0,ja⟩:=h;refine Decidable.byContradiction fun hp=>?_
 obtain⟨_,hn⟩:=cV hq hp h3 h4 h2;rcases ja with⟨_,_,rfl⟩|⟨_,_,_,_,uv,_⟩
 ·exact hn t0
 ·exact hn uv
theorem wU {s s1:PS}(hq:s.mode=0∧s.part=Pt.zero∧s.over=false)(h:mD s c ty t s1):
 s1.pend=[]∧∃ks,s1.last=some (c,ks)∧(Vn c.op c.verb≠0→ks=ty∧(∀x∈ty,Df x)∧(Pg ty).size≤1000):=by
 have N0:=trivial;exact K48
theorem Dm.evs {p:Nat}{E:Option Addr}{n k:Nat}(h:Dm w col p v s)(hv:v.told=.slice E n k):lW w E n k s.told:=by
 obtain⟨E1,n1,k1,xs,ob,hO,hl,_,hD⟩:=h.told;rw[hv]at ob;injection ob with a1 a2 a3;subst a1 a2 a3;have ET:EvR w 0 (.slice E n k) s.told:=⟨E,n,k,xs,rfl,hO,hl,hD.here⟩;obtain⟨E',n',k',e2,h2⟩:=ET.v;injection e2 with x1 x2 x3;subst x1 x2 x3;exact h2
def J7f (w:World)(col:Nat→Nat)(p W N:Nat)(s:PS)(u:Value)(w':World):Prop:=∃(col':Nat→Nat) (v':SV) (E:Option Addr) (n k:Nat) (S2:Option Addr) (n2 k2:Nat),
 u=.tuple #[.slice E n k,.slice S2 n2 k2,(0:Int)]∧v'.told=.slice E n k∧Dm w' col' p v' s∧Km w col w' col'∧L6 W N s∧(∀k,k<w.heap.size→col k=4∨col k=5∨col k=6→w'.heap[k]? = w.heap[k]? ∧ col' k=0)∧n≤8000000000
theorem Vh (hm:Dm w col p v s)(hs:L6 W N s)(hN:N≤1800000)(ho:s.over=false)(ht:t.size≤4096):
 Calls prog 18 #[.pointer (some ⟨p,0,none⟩),.string t] w fun e w'=>∃u,e=.returned u∧J7f w col p W (N+(t.size+1)) (Cj s t) u w':=by
 have N1:=trivial;exact K42
end
