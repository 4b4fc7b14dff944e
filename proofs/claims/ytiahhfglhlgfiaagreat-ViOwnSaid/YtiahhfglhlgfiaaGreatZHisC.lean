/-
  Part ZHisC.
-/
import Derived.Test.YtiahhfglhlgfiaaGreatZRegA
import Derived.Deep.RegionHeld3
import Derived.Deep.DeepCutAuto
import Derived.Deep.RegionLaw
set_option maxRecDepth 100000
set_option maxHeartbeats 16000000
set_option linter.unusedVariables false
set_option linter.unusedSimpArgs false
namespace Go.Proofs.YtiahhfglhlgfiaaGreat
open Go.RowKit
open _root_.List renaming getElem?_append_left→Bu,getElem?_append_right→Ca
open _root_.Nat renaming le_refl→Ai,le_trans→Ap
open Value renaming oneCell'→Bt,slice→Aj
section
variable {w w':World}{b:Nat}{ls:List (List Int)}{xs:List Value}{A:Option Addr}{p:Addr}
structure Hi where
 lines:List (List Int)
 most:Int
 at_:Int
 scratch:List Int
 pattern:List Int
 older:Bool
def Hi.zero:Hi:=⟨[],0,0,[],[],false⟩
def Ce (A:Option Addr)(n c:Nat)(mo at_:Int)(S:Option Addr)(sn sc:Nat)(P:Option Addr)(pn pc:Nat)(o:Bool):Array Value:=#[.slice A n c,.int .i64 mo,.int .i64 at_,.slice S sn sc,.slice P pn pc,.bool o]
def L8 (w:World)(v:Value)(h:Hi):Prop:=∃A n c S sn sc P pn pc,v=.agg (Ce A n c h.most h.at_ S sn sc P pn pc h.older)∧V7 w A n c h.lines∧(A=none→c=0)∧Kq w (.slice S sn sc) h.scratch∧Kq w (.slice P pn pc) h.pattern
def Hi.all (h:Hi):List (List Int):=h.lines++[h.scratch,h.pattern]
def Hi.bad (h:Hi):Prop:=h.most<1∨50<h.most∨h.most<h.lines.length∨h.at_<0∨(h.lines.length:Int)<h.at_
def Hi.long (h:Hi):Prop:=∃i,i<h.all.length∧200<(gL h.all i).length
instance (h:Hi):Decidable h.bad:=by unfold Hi.bad;infer_instance
def R0 (h:Hi)(x:Int):Prop:=(h.bad∧x=1)∨(¬h.bad∧h.long∧x=2)∨(¬h.bad∧¬h.long∧x=0)
theorem R0.zero {h:Hi}{x:Int}(hc:R0 h x)(hx:x=0):¬h.bad∧¬h.long:=by
 rcases hc with⟨_,h1⟩|⟨_,_,h1⟩|⟨h1,h2,_⟩
 ·omega
 ·omega
 ·exact⟨h1,h2⟩
theorem Kq.one {v:Value}{l:List Int}(h:Kq w v l):v.oneCell'=true:=by obtain⟨A,n,c,rfl,_⟩:=h;rfl
theorem Cg {g t:Nat}{a b c d e f:Value}(h:An w g t #[a,b,c,d,e,f]):w.cell? ⟨g,0,none⟩=some a∧w.cell? ⟨g,1,none⟩=some b∧w.cell? ⟨g,2,none⟩=some c∧w.cell? ⟨g,3,none⟩=some d∧w.cell? ⟨g,4,none⟩=some e∧w.cell? ⟨g,5,none⟩=some f:=
 ⟨h.cell 0,h.cell 1,h.cell 2,h.cell 3,h.cell 4,h.cell 5⟩
theorem Rd.litAtHisC (w:World)(t:TypeId)(xs:List Value){n g:Nat}(hg:g=w.heap.size)(hn:n=xs.length)(hm:n≤1000):Rd (w.alloc (.cells xs.toArray t)) 1 (some ⟨g,0,none⟩) n n xs:=by
 subst hg;subst hn;refine⟨by simp,Ai _,by unfold maxLen;omega,fun _=>⟨_,rfl,fun j u hu=>?_⟩⟩
 exact I57
theorem aL.two {u v:Value}{l m:List Int}(h:aL w xs ls)(hu:Kq w u l)(hv:Kq w v m):aL w (xs++[u,v]) (ls++[l,m]):=by
 refine⟨by simp[h.1],fun i hi=>?_⟩
 rw[List.length_append]at hi;simp only[List.length_cons,List.length_nil]at hi;rcases Nat.lt_or_ge i ls.length with hlt|hge
 ·obtain⟨x,h1,h2⟩:=h.2 i hlt
  refine⟨x,by rw[Bu (by rw[h.1];exact hlt)];exact h1,?_⟩
  unfold gL;rw[Bu hlt];exact h2
 ·have:i=ls.length∨i=ls.length+1:=by omega
  rcases this with rfl|rfl
  ·refine⟨u,by rw[Ca (by rw[h.1];exact Ai _),h.1,Nat.sub_self];rfl,?_⟩
   unfold gL;rw[Ca (Ai _),Nat.sub_self];exact hu
  ·refine⟨v,by rw[Ca (by rw[h.1];omega),h.1,show ls.length+1-ls.length=1 by omega];rfl,?_⟩
   unfold gL;rw[Ca (by omega),show ls.length+1-ls.length=1 by omega]
   exact hv
theorem Low3.call {W w1 w2:World}{g:Nat}{u v x:Value}(h:w1.cell? ⟨g,0,none⟩=some u∧w1.cell? ⟨g,3,none⟩=some v∧w1.cell? ⟨g,4,none⟩=some x∧Al W w1)(he:Al w1 w2):
 w2.cell? ⟨g,0,none⟩=some u∧w2.cell? ⟨g,3,none⟩=some v∧w2.cell? ⟨g,4,none⟩=some x∧Al W w2:=⟨he.cell h.1,he.cell h.2.1,he.cell h.2.2.1,h.2.2.2.trans he⟩
theorem Vy {v:Value}{h:Hi}(hv:L8 w v h):
 Calls Tryz.prog 81 #[v] w fun e w'=>∃x:Int,e=.returned (.int .i64 x)∧R0 h x∧Al w w':=by
 obtain⟨i0,hi,hz0,hz1,hz2⟩:=info_parts Lp;obtain⟨ls,mo,at_,sl,pl,ol⟩:=h;obtain⟨A,n,c,S,sn,sc,P,pn,pc,rfl,hL,hA,hS,hP⟩:=hv;unfold Ce;simp only at hL hS hP ⊢;have hn:=hL.len;have HL:=A4 hL;have HS:=A4 hS;have HP:=A4 hP;have hnm:=Ap hL.ncap hL.nmax;unfold maxLen at hnm;have HN:=A4 hn;clear hL hS hP hn;by_cases hb:mo<1∨50<mo∨mo<n∨at_<0∨(n:Int)<at_
 ·have HB:Hid (R0 ⟨ls,mo,at_,sl,pl,ol⟩ 1):=A4 (.inl ⟨by unfold Hi.bad;simp only;rw[HN.out];exact hb,rfl⟩)
  by_cases h1:mo<1
  ·exact I11
  by_cases h2:50<mo
  ·exact I11
  by_cases h3:mo<n
  ·exact I11
  by_cases h4:at_<0
  ·exact I11
  ·have h5:(n:Int)<at_:=by omega
   exact I11
 ·have HB:Hid (¬(⟨ls,mo,at_,sl,pl,ol⟩:Hi).bad):=A4 (by unfold Hi.bad;simp only;rw[HN.out];exact hb)
  have h1:1≤mo:=by omega
  have h2:mo≤50:=by omega
  have h3:(n:Int)≤mo:=by omega
  have h4:0≤at_:=by omega
  have h5:at_≤n:=by omega
  have h6:n≤50:=by omega
  clear hb;obtain⟨xs,hR,hV⟩:=HL.out;have hx0:=Al.alloc w (.cells #[.slice A n c,.int .i64 mo,.int .i64 at_,.slice S sn sc,.slice P pn pc,.bool ol] 54);obtain⟨k0,k1,k2,k3,k4,k5⟩:=Cg (An.new w 54 #[.slice A n c,.int .i64 mo,.int .i64 at_,.slice S sn sc,.slice P pn pc,.bool ol]);have HR:=A4 (Rd.ext hR hx0);have HV:=A4 hV;have HX:=A4 hx0;clear hR hV hx0 HL;go_enter Tryz.func81,Tryz.ntmps81
  go_wp2_with fail
  generalize hW:w.alloc (.cells #[.slice A n c,.int .i64 mo,.int .i64 at_,.slice S sn sc,.slice P pn pc,.bool ol] 54)=W at*;generalize w.heap.size=g1 at*;have hxd:=Al.drew W;have HCL:Hid (∀wq,Al W wq→Calls Tryz.prog 104 #[.slice A n c] wq fun e w'=>∃B d,e=.returned (.slice B n d)∧Ay w' wq.heap.size 27 1 B n d xs∧(B=none→d=0)∧Al wq w'):=A4 (fun wq he=>jJ (Rd.ext HR.out he) HV.out.one hA (by omega))
  have HBS:Hid (W.heap.size≤W.heap.size):=A4 (Ai _);have hlit1:∀u∈[Aj S sn sc,Aj P pn pc],u.oneCell'=true:=by intro u hu;simp at hu;rcases hu with rfl|rfl<;>rfl
  have HL1:=A4 hlit1;clear hW hlit1 k1 k2 k5;go_region_held3 (fun w'=>w'.cell? ⟨g1,0,none⟩=some (.slice A n c)∧w'.cell? ⟨g1,3,none⟩=some (.slice S sn sc)∧w'.cell? ⟨g1,4,none⟩=some (.slice P pn pc)∧Al W w') (first
   |assumption
   |exact⟨k0,k3,k4,hxd⟩
   |exact Low3.call (W:=W) (g:=g1) (u:=.slice A n c) (v:=.slice S sn sc) (x:=.slice P pn pc) (by assumption) (Al.alloc _ _)) (first
   |(
    go_at_call 104
    refine(HCL.out _ (And.right (And.right (And.right (by assumption:_∧_∧_∧Al W _))))).mono ?_
    rintro e wa ⟨B,d,rfl,hoB,hB0,hea⟩;have hoB':Ay wa W.heap.size 27 1 B n d xs:=Ay.lower hoB (by first|exact Ai _|simp)
    have hSA:=Low3.call (W:=W) (g:=g1) (u:=.slice A n c) (v:=.slice S sn sc) (x:=.slice P pn pc) (by assumption) hea)
   |(
    refine Q6 rfl (.tmp 36) (.tmp 41) 41 rfl W W.heap.size 27 i0 (.slice none 0 0) 1 24 Tryz.underlying41 hi hz0 hz1 hz2 rfl (by decide) B n d xs rfl (by first|exact hoB'|exact Ay.ext hoB' (Al.alloc _ _)) _ 2 2 [.slice S sn sc,.slice P pn pc] rfl (by first|exact Rd.litAtHisC _ _ [.slice S sn sc,.slice P pn pc] (by first|rfl|simp) rfl (by omega)|exact Rd.ext (Rd.litAtHisC _ _ [.slice S sn sc,.slice P pn pc] (by first|rfl|simp) rfl (by omega)) ((Al.drew _).trans hea)) HL1.out (by unfold maxLen;omega) (by omega) (by first|exact hSA.2.2.2|exact Al.to_alloc hSA.2.2.2 _) (Ai _) (by first|exact(Al.hsize hSA.2.2.2)|exact(Al.hsize (Al.to_alloc hSA.2.2.2 _))) ?_
    intro O2 d2 w3 hO2 hgr hor hx3;have hS3:w3.cell? ⟨g1,0,none⟩=some (.slice A n c)∧w3.cell? ⟨g1,3,none⟩=some (.slice S sn sc)∧w3.cell? ⟨g1,4,none⟩=some (.slice P pn pc)∧Al W w3:=⟨hx3.cell k0,hx3.cell k3,hx3.cell k4,hx3⟩))
  all_goals
   have hV3:aL w3 (xs++[.slice S sn sc,.slice P pn pc]) (ls++[sl,pl]):=aL.two (HV.out.ext (HX.out.trans hx3)) (HS.out.ext (HX.out.trans hx3)) (HP.out.ext (HX.out.trans hx3));have HLn:Hid (V7 w3 O2 (n+2) d2 (ls++[sl,pl])):=A4 ⟨_,Ay.rd hO2,hV3⟩;have hnd:=HLn.out.ncap;have hdm:=HLn.out.nmax;unfold maxLen at hdm;have HX3:=A4 (HX.out.trans hx3);have Hlen:=A4 HLn.out.len;clear hV3 hO2 hgr hor hx3 hS3 hoB hoB' hB0 hea hSA HCL HL1 HBS k0 k3 k4 hxd HR;go_wp2_with fail
   go_loopw [44] (fun s44 wx=>∃k:Nat,k≤n+2∧s44=.int .i64 k∧Hid (∀j,j<k→(gL (ls++[sl,pl]) j).length≤200)∧wx=w3) (fun s44 _=>n+2-(intOf s44).toNat)
   case atStart=>exact⟨0,by omega,rfl,A4 (fun j hj=>by omega),rfl⟩
   case round=>
    obtain⟨k,hk,rfl,Hle,rfl⟩:=hrel;by_cases hlt:k<n+2
    ·obtain⟨ad,v,rfl,hc,A',n',c',rfl,hI,_⟩:=HLn.out.at_ hlt
     have hl':=A4 hI.len;have hn':=Ap hI.ncap hI.nmax;unfold maxLen at hn';clear hI;by_cases hb:200<n'
     ·have HC:Hid (R0 ⟨ls,mo,at_,sl,pl,ol⟩ 2):=A4 (.inr (.inl ⟨HB.out,⟨k,by rw[show(Hi.all ⟨ls,mo,at_,sl,pl,ol⟩)=ls++[sl,pl]from rfl,Hlen.out];exact hlt,by rw[show(Hi.all ⟨ls,mo,at_,sl,pl,ol⟩)=ls++[sl,pl]from rfl,hl'.out];exact hb⟩,rfl⟩))
      go_wp2_with fail
      go_ret
      exact⟨2,rfl,HC.out,HX3.out⟩
     ·go_wp2_with fail
      go_roundw
      case rel=>exact⟨k+1,by omega,by go_num,A4 (fun j hj=>by
       by_cases hjk:j=k
       ·rw[hjk,hl'.out];omega
       ·exact Hle.out j (by omega)),(by first|rfl|trivial)⟩
      case measure=>simp[intOf];omega
    ·obtain rfl:k=n+2:=by omega
     have HC:Hid (R0 ⟨ls,mo,at_,sl,pl,ol⟩ 0):=A4 (.inr (.inr ⟨HB.out,fun⟨i,h1,h2⟩=>by
      rw[show(Hi.all ⟨ls,mo,at_,sl,pl,ol⟩)=ls++[sl,pl]from rfl]at h1 h2
      rw[Hlen.out]at h1;have:=Hle.out i h1;omega,rfl⟩))
     go_wp2_with fail
     go_ret
     exact⟨0,rfl,HC.out,HX3.out⟩
def D3 (w:World)(b:Nat)(v:Value)(h:Hi):Prop:=∃A n c S sn sc P pn pc,v=.agg (Ce A n c h.most h.at_ S sn sc P pn pc h.older)∧G6 w b A n c h.lines∧Bg w b (.slice S sn sc) h.scratch∧Bg w b (.slice P pn pc) h.pattern
theorem G6.nocap {n c:Nat}(h:G6 w b A n c ls):A=none→c=0:=h.choose_spec.2.2
theorem D3.v {v:Value}{h:Hi}(hh:D3 w b v h):L8 w v h:=by
 obtain⟨A,n,c,S,sn,sc,P,pn,pc,rfl,h1,h2,h3⟩:=hh;exact⟨A,n,c,S,sn,sc,P,pn,pc,rfl,h1.lns,h1.nocap,h2.sl,h3.sl⟩
theorem L8.ext {v:Value}{h:Hi}(hh:L8 w v h)(he:Al w w'):L8 w' v h:=by
 obtain⟨A,n,c,S,sn,sc,P,pn,pc,rfl,h1,h2,h3,h4⟩:=hh;exact⟨A,n,c,S,sn,sc,P,pn,pc,rfl,h1.ext he,h2,h3.ext he,h4.ext he⟩
theorem D3.ext {v:Value}{h:Hi}(hh:D3 w b v h)(he:Al w w'):D3 w' b v h:=by
 obtain⟨A,n,c,S,sn,sc,P,pn,pc,rfl,h1,h2,h3⟩:=hh;exact⟨A,n,c,S,sn,sc,P,pn,pc,rfl,h1.ext he,h2.ext he,h3.ext he⟩
theorem D3.lower {b b':Nat}{v:Value}{h:Hi}(hh:D3 w b v h)(hb:b'≤b):D3 w b' v h:=by
 obtain⟨A,n,c,S,sn,sc,P,pn,pc,rfl,h1,h2,h3⟩:=hh;exact⟨A,n,c,S,sn,sc,P,pn,pc,rfl,h1.lower hb,h2.lower hb,h3.lower hb⟩
theorem Ay.nocap' {base e z n c:Nat}(h:Ay w base e z A n c xs):A=none→c=0:=by
 exact I80
theorem D3.setRow {v:Value}{h:Hi}(hh:D3 w b v h){g:Nat}(hg:g<b)(us:Array Value):D3 (w.setRow g us) b v h:=by
 obtain⟨A,n,c,S,sn,sc,P,pn,pc,rfl,h1,h2,h3⟩:=hh;exact⟨A,n,c,S,sn,sc,P,pn,pc,rfl,h1.setRow hg us,h2.setRow hg us,h3.setRow hg us⟩
theorem D3.setCell {v:Value}{h:Hi}(hh:D3 w b v h)(hp:p.block<b)(u:Value):D3 (w.setCell p u) b v h:=by
 obtain⟨A,n,c,S,sn,sc,P,pn,pc,rfl,h1,h2,h3⟩:=hh;exact⟨A,n,c,S,sn,sc,P,pn,pc,rfl,h1.setCell hp u,h2.setCell hp u,h3.setCell hp u⟩
theorem iR:(Tryz.prog.info? 54).map (·.size)=some 6:=by kernel_rfl
theorem Ek {cs:Array Value}(h:cs.size=6):(Tryz.prog.info? 54).map (·.size)=some cs.size:=by rw[h];exact iR
theorem nS (A:Option Addr)(n c:Nat)(mo at_:Int)(S:Option Addr)(sn sc:Nat)(P:Option Addr)(pn pc:Nat)(o:Bool):(Ce A n c mo at_ S sn sc P pn pc o).all (·.oneCell')=true:=by
 unfold Ce;simp[Bt]
theorem eU {k:Nat}(h:k<ls.length):ls.take (k+1)=ls.take k++[gL ls k]:=by
 rw[List.take_succ_eq_append_getElem h];unfold gL;rw[List.getElem?_eq_getElem h]
 rfl
theorem Ug {v:Value}{h:Hi}(hv:L8 w v h)(hsm:h.lines.length≤1000):
 Calls Tryz.prog 82 #[v] w fun e w'=>∃u,e=.returned u∧D3 w' w.heap.size u h∧Al w w':=by
 obtain⟨i0,hi,hz0,hz1,hz2⟩:=info_parts Lp;obtain⟨ls,mo,at_,sl,pl,ol⟩:=h;obtain⟨A,n,c,S,sn,sc,P,pn,pc,rfl,hL,hA,hS,hP⟩:=hv;unfold Ce;simp only at hL hS hP hsm ⊢;have hn:=hL.len;have HL:=A4 hL;have HS:=A4 hS;have HP:=A4 hP;have hn1:n≤1000:=by omega
 have HN:=A4 hn;clear hL hS hP hn hsm;have hb0:Hid (An ((w.alloc (.cells #[.slice none 0 0,.int .i64 mo,.int .i64 at_,.slice S sn sc,.slice P pn pc,.bool ol] 54)).alloc (.cells #[.slice none 0 0,.int .i64 0,.int .i64 0,.slice none 0 0,.slice none 0 0,.bool false] 54)) w.heap.size 54 #[.slice none 0 0,.int .i64 mo,.int .i64 at_,.slice S sn sc,.slice P pn pc,.bool ol]):=A4 ((An.new w _ _).ext (Al.alloc _ _));have hb1:Hid (An ((w.alloc (.cells #[.slice none 0 0,.int .i64 mo,.int .i64 at_,.slice S sn sc,.slice P pn pc,.bool ol] 54)).alloc (.cells #[.slice none 0 0,.int .i64 0,.int .i64 0,.slice none 0 0,.slice none 0 0,.bool false] 54)) (w.heap.size+1) 54 #[.slice none 0 0,.int .i64 0,.int .i64 0,.slice none 0 0,.slice none 0 0,.bool false]):=A4 (by
  have:=An.new (w.alloc (.cells #[.slice none 0 0,.int .i64 mo,.int .i64 at_,.slice S sn sc,.slice P pn pc,.bool ol] 54)) 54 #[.slice none 0 0,.int .i64 0,.int .i64 0,.slice none 0 0,.slice none 0 0,.bool false]
  rwa[World.size_alloc]at this)
 have hx0:Hid (Al w ((w.alloc (.cells #[.slice none 0 0,.int .i64 mo,.int .i64 at_,.slice S sn sc,.slice P pn pc,.bool ol] 54)).alloc (.cells #[.slice none 0 0,.int .i64 0,.int .i64 0,.slice none 0 0,.slice none 0 0,.bool false] 54))):=A4 ((Al.alloc _ _).to_alloc _);have hsz0:w.heap.size+2≤((w.alloc (.cells #[.slice none 0 0,.int .i64 mo,.int .i64 at_,.slice S sn sc,.slice P pn pc,.bool ol] 54)).alloc (.cells #[.slice none 0 0,.int .i64 0,.int .i64 0,.slice none 0 0,.slice none 0 0,.bool false] 54)).heap.size:=by simp
 go_enter Tryz.func82,Tryz.ntmps82
 go_wp2_with fail
 go_loopw [11] (fun s11 wx=>∃(k:Nat) (O:Option Addr) (d:Nat),k≤n∧s11=.int .i64 k∧Hid (An wx w.heap.size 54 #[.slice O k d,.int .i64 mo,.int .i64 at_,.slice S sn sc,.slice P pn pc,.bool ol])∧Hid (An wx (w.heap.size+1) 54 #[.slice none 0 0,.int .i64 0,.int .i64 0,.slice none 0 0,.slice none 0 0,.bool false])∧Hid (Al w wx)∧Hid (G6 wx (w.heap.size+2) O k d (ls.take k))∧w.heap.size+2≤wx.heap.size) (fun s11 _=>n-(intOf s11).toNat)
 case atStart=>exact⟨0,none,0,by omega,rfl,hb0,hb1,hx0,A4 (by simpa using G6.nil _ _),hsz0⟩
 case round=>
  clear hb0 hb1 hx0 hsz0;obtain⟨k,O,d,hk,rfl,Hb1,Hb2,Hx,HO,hsz⟩:=hrel;have hgg:w.heap.size<wr.heap.size:=by omega
  by_cases hlt:k<n
  ·obtain⟨ad,v,rfl,hc,B,m,q,rfl,hI,hB,hm⟩:=(HL.out.ext Hx.out).at_ hlt
   obtain⟨xs,hO1,hO2,_⟩:=HO.out;have HC:=A4 (Cy (hI.ext (Al.drew wr)) hB hm);obtain⟨a0,_⟩:=Cg Hb1.out;have a1:wr.drew.cell? ⟨w.heap.size,0,none⟩=some (.slice O k d):=a0;have HO1:=A4 hO1;have HO2:=A4 hO2;clear hI hO1 hO2 HO;go_upto_region 6 with fail
   go_region_law (first
    |(
     refine J1 rfl 16 #[.slice B m q] (by kernel_rfl) (fun v w'=>∃B2 d2,v=.slice B2 m d2∧Av w' wr.drew.heap.size B2 m d2 (gL ls k)∧(B2=none→d2=0)∧Al wr.drew w') (HC.out.mono fun e w' ⟨B2,d2,h1,h2⟩=>⟨_,h1,B2,d2,rfl,h2⟩) ?_
     rintro v w2 ⟨B2,q2,rfl,hoc,hnc,hec⟩;have b1:=hec.cell a1;have b2:(w2.alloc (.cells #[.slice B2 m q2] 27)).cell? ⟨w.heap.size,0,none⟩=some (.slice O k d):=Al.cell (Al.alloc _ _) b1)
    |(
     refine Mn rfl (.tmp 16) (.tmp 19) 41 rfl w (w.heap.size+2) 27 i0 _ 1 24 Tryz.underlying41 hi hz0 hz1 hz2 rfl (by decide) O k d xs rfl (Ay.ext HO1.out ((Al.drew wr).trans hec)) #[.slice B2 m q2] rfl (by simp[Bt]) rfl (by unfold maxLen;omega) (by omega) (Hx.out.trans ((Al.drew wr).trans hec)) (by omega) (Ap hsz (Ap (Al.hsize (Al.drew wr)) hec.hsize)) ?_
     intro O3 d3 w3 hO3 hgr hor hx3;have hb3:=An.grown (An.ext Hb1.out ((Al.drew wr).trans hec)) hgr (fun e=>by have:=(Ay.blk HO1.out _ e.symm).1;omega)
     have c0:=hb3.cell 0;have f0:=hb3.frozen 0;simp only[List.getElem?_toArray,List.getElem?_cons_zero]at c0))
   all_goals
    have he2:=(Al.drew wr).trans hec;have hz2':wr.heap.size≤w2.heap.size:=he2.hsize;have hOb:∀g,(Aj O k d).ownBlock=some g→g<wr.heap.size:=fun g hg=>(Ay.blk HO1.out g hg).2
    have hn0:∀g,(Aj B2 m q2).ownBlock=some g→wr.heap.size≤g∧g<w2.heap.size:=fun g hg=>Ay.blk hoc g hg
    have hrow:(Aj B2 m q2).ownBlock=none∨(Aj B2 m q2).ownBlock≠(Aj O k d).ownBlock:=by
     exact I58
    have hrow':(Aj B2 m q2).ownBlock=none∨(Aj B2 m q2).ownBlock≠(Aj O3 (k+1) d3).ownBlock:=by
     exact I32
    have hnew:Bg w3 (w.heap.size+2) (.slice B2 m q2) (gL ls k):=⟨B2,m,q2,rfl,Ay.kept (Ay.lower hoc (Ap hsz (Ai _))) hgr hrow,hnc,hm⟩;have hold:Rp w3 (w.heap.size+2) (Aj O3 (k+1) d3).ownBlock xs (ls.take k):=(HO2.out.ext he2).grown hgr hor;have hall:G6 w3 (w.heap.size+2) O3 (k+1) d3 (ls.take (k+1)):=⟨xs++[.slice B2 m q2],by simpa using hO3,by rw[eU (by rw[HN.out];exact hlt)];exact hold.snoc hnew hrow',Ay.nocap' hO3⟩
    have HLn:=A4 (hall.setCell (p:=⟨w.heap.size,0,none⟩) (show w.heap.size<w.heap.size+2 by omega) (.slice O3 (k+1) d3))
    have HB1:Hid (An (w3.setCell ⟨w.heap.size,0,none⟩ (.slice O3 (k+1) d3)) w.heap.size 54 #[.slice O3 (k+1) d3,.int .i64 mo,.int .i64 at_,.slice S sn sc,.slice P pn pc,.bool ol]):=A4 (hb3.set_ 0 (.slice O3 (k+1) d3));have HB2:=A4 (Bh (An.grown (An.ext Hb2.out he2) hgr (fun e=>by have:=(Ay.blk HO1.out _ e.symm).1;omega)) (show w.heap.size≠w.heap.size+1 by omega) 0 (.slice O3 (k+1) d3))
    have HX3:=A4 (hx3.setCell (p:=⟨w.heap.size,0,none⟩) (Ai _) (.slice O3 (k+1) d3));have hsz3:w.heap.size+2≤(w3.setCell ⟨w.heap.size,0,none⟩ (.slice O3 (k+1) d3)).heap.size:=HB2.out.lt;clear hO3 hgr hor hx3 hb3 c0 f0 hoc hnc hec b1 b2 he2 hz2' hOb hn0 hrow hrow' hnew hold hall a0 a1 HO1 HO2 Hb1 Hb2 Hx HC hc hB hm hsz hgg;go_wp2_with fail
    go_roundw
    case rel=>exact⟨k+1,O3,d3,by omega,by go_num,HB1,HB2,HX3,HLn,hsz3⟩
    case measure=>simp[intOf];omega
  ·obtain rfl:k=n:=by omega
   rw[List.take_of_length_le (by rw[HN.out];exact Ai _)]at HO
   obtain⟨B3,m3,q3,hh3,hI3,hB3,hm3⟩:=HS.out.ext Hx.out;injection hh3 with h1 h2 h3;subst h1;subst h2;subst h3;obtain⟨B4,m4,q4,hh4,hI4,hB4,hm4⟩:=HP.out.ext Hx.out;injection hh4 with h1 h2 h3;subst h1;subst h2;subst h3;obtain⟨_,_,_,k3,k4,_⟩:=Cg Hb1.out;have d3':wr.drew.cell? ⟨w.heap.size,3,none⟩=some (.slice S sn sc):=k3;have d4':wr.drew.cell? ⟨w.heap.size,4,none⟩=some (.slice P pn pc):=k4;have HC3:=A4 (Cy (hI3.ext (Al.drew wr)) hB3 hm3);have HC4:Hid (∀wq,Al wr wq→Calls Tryz.prog 16 #[.slice P pn pc] wq fun e w'=>∃B d,e=.returned (.slice B pn d)∧Av w' wq.heap.size B pn d pl∧(B=none→d=0)∧Al wq w'):=A4 (fun wq he=>Cy (hI4.ext he) hB4 hm4)
   clear hI3 hI4;go_upto_region 8 with fail
   go_region_law (first
    |(
     refine J1 rfl 16 #[.slice S sn sc] (by kernel_rfl) (fun v w'=>∃B2 d2,v=.slice B2 sn d2∧Av w' wr.drew.heap.size B2 sn d2 sl∧(B2=none→d2=0)∧Al wr.drew w') (HC3.out.mono fun e w' ⟨B2,d2,h1,h2⟩=>⟨_,h1,B2,d2,rfl,h2⟩) ?_
     rintro v w2 ⟨B5,q5,rfl,ho5,hn5,he5⟩;have e3:=he5.cell d3';have e4:=he5.cell d4')
    |(
     refine J1 rfl 16 #[.slice P pn pc] (by kernel_rfl) (fun v w'=>∃B2 d2,v=.slice B2 pn d2∧Av w' w2.heap.size B2 pn d2 pl∧(B2=none→d2=0)∧Al w2 w') ((HC4.out _ ((Al.drew wr).trans he5)).mono fun e w' ⟨B2,d2,h1,h2⟩=>⟨_,h1,B2,d2,rfl,h2⟩) ?_
     rintro v w3 ⟨B6,q6,rfl,ho6,hn6,he6⟩;have hb3:=An.ext (An.ext Hb1.out ((Al.drew wr).trans he5)) he6;obtain⟨_,_,_,c3,c4,_⟩:=Cg hb3;have f3:=hb3.frozen 3;have f4:=hb3.frozen 4))
   all_goals
    have hend:An ((w3.setCell ⟨w.heap.size,3,none⟩ (.slice B5 sn q5)).setCell ⟨w.heap.size,4,none⟩ (.slice B6 pn q6)) w.heap.size 54 (Ce O k d mo at_ B5 sn q5 B6 pn q6 ol):=(hb3.set_ 3 (.slice B5 sn q5)).set_ 4 (.slice B6 pn q6);have he7:=((Al.drew wr).trans he5).trans he6;have hb2':=Bh (Bh (An.ext Hb2.out he7) (show w.heap.size≠w.heap.size+1 by omega) 3 (.slice B5 sn q5)) (show w.heap.size≠w.heap.size+1 by omega) 4 (.slice B6 pn q6)
    have hX7:Al w ((w3.setCell ⟨w.heap.size,3,none⟩ (.slice B5 sn q5)).setCell ⟨w.heap.size,4,none⟩ (.slice B6 pn q6)):=((Hx.out.trans he7).setCell (p:=⟨w.heap.size,3,none⟩) (Ai _) _).setCell (p:=⟨w.heap.size,4,none⟩) (Ai _) _;have hO7:D3 ((w3.setCell ⟨w.heap.size,3,none⟩ (.slice B5 sn q5)).setCell ⟨w.heap.size,4,none⟩ (.slice B6 pn q6)) (w.heap.size+2) (.agg (Ce O k d mo at_ B5 sn q5 B6 pn q6 ol)) ⟨ls,mo,at_,sl,pl,ol⟩:=by
     have hlt1:w.heap.size<w.heap.size+2:=by omega
     refine⟨O,k,d,B5,sn,q5,B6,pn,q6,rfl,((HO.out.ext he7).setCell (p:=⟨w.heap.size,3,none⟩) hlt1 _).setCell (p:=⟨w.heap.size,4,none⟩) hlt1 _,?_,?_⟩
     ·have h5:Bg w3 (w.heap.size+2) (.slice B5 sn q5) sl:=⟨B5,sn,q5,rfl,(Ay.lower ho5 (Ap hsz (Ai _))).ext he6,hn5,hm3⟩
      exact(h5.setCell (p:=⟨w.heap.size,3,none⟩) hlt1 _).setCell (p:=⟨w.heap.size,4,none⟩) hlt1 _
     ·have h6:Bg w3 (w.heap.size+2) (.slice B6 pn q6) pl:=⟨B6,pn,q6,rfl,Ay.lower ho6 (Ap hsz ((Al.drew wr).trans he5).hsize),hn6,hm4⟩
      exact(h6.setCell (p:=⟨w.heap.size,3,none⟩) hlt1 _).setCell (p:=⟨w.heap.size,4,none⟩) hlt1 _
    have HE:=A4 hend;have H2:=A4 hb2';have HX:=A4 hX7;have HO7:=A4 hO7;clear hend hb2' hX7 hO7 he7 c3 c4 f3 f4 hb3 ho6 hn6 he6 ho5 hn5 he5 e3 e4 HC3 HC4 d3' d4' k3 k4 Hb1 Hb2 Hx HO;generalize (w3.setCell ⟨w.heap.size,3,none⟩ (.slice B5 sn q5)).setCell ⟨w.heap.size,4,none⟩ (.slice B6 pn q6)=W at*;have hone:(Ce O k d mo at_ B5 sn q5 B6 pn q6 ol).all (·.oneCell')=true:=nS ..;have hz6:(Ce O k d mo at_ B5 sn q5 B6 pn q6 ol).size=6:=rfl;have hZO:Hid (D3 (W.setRow (w.heap.size+1) (Ce O k d mo at_ B5 sn q5 B6 pn q6 ol)) w.heap.size (.agg (Ce O k d mo at_ B5 sn q5 B6 pn q6 ol)) ⟨ls,mo,at_,sl,pl,ol⟩):=A4 ((HO7.out.setRow (show w.heap.size+1<w.heap.size+2 by omega) _).lower (by omega))
    have hZX:=A4 (HX.out.setRow (show w.heap.size≤w.heap.size+1 by omega) (Ce O k d mo at_ B5 sn q5 B6 pn q6 ol))
    have hres:=A4 (H2.out.setRow (Ce O k d mo at_ B5 sn q5 B6 pn q6 ol));generalize hcs:Ce O k d mo at_ B5 sn q5 B6 pn q6 ol=cs at*;clear hcs;have hsz6:(#[.slice none 0 0,.int .i64 0,.int .i64 0,.slice none 0 0,.slice none 0 0,.bool false]:Array Value).size=cs.size:=by rw[hz6];rfl
    have Hz6:=A4 hz6;have Hone:=A4 hone;have Hsz6:=A4 hsz6;clear hz6 hone hsz6;go_wp2_with (first|(refine wpList_load_row rfl 54 (.tmp 1) rfl w.heap.size rfl 54 cs (0,0) _ HE.out Tryz.underlying54 rfl (Ek Hz6.out) ?_)|(refine wpList_store_row rfl 54 (.tmp 2) (.tmp 31) rfl (w.heap.size+1) cs rfl rfl 54 _ H2.out (Ek Hz6.out) Hsz6.out Hone.out ?_))
    refine bodyPost_ret (v:=.agg cs) ?_ rfl ⟨_,rfl,hZO.out,hZX.out⟩
    exact results_cell_row rfl _ _ (w.heap.size+1) 54 _ _ _ rfl hres.out Tryz.underlying54 rfl (Ek Hz6.out)
section
variable {w w':World} {b:Nat}
theorem Ay.win {e z n c:Nat}{A:Option Addr}{xs:List Value}(h:Ay w b e z A n c xs)(hw:∀k,b≤k→k<w.heap.size→w'.heap[k]? = w.heap[k]?):Ay w' b e z A n c xs:=by
 obtain⟨h1,h2⟩:=h;rcases h2 with⟨hv,h0⟩|⟨g,cap,cur,hv,hb,hg,h3⟩
 ·exact⟨h1,.inl ⟨hv,h0⟩⟩
 ·exact⟨h1,.inr ⟨g,cap,cur,hv,hb,(hw g hb (Array.getElem?_eq_some_iff.1 hg).1).trans hg,h3⟩⟩
theorem Ay.same {e z n c:Nat}{A:Option Addr}{xs:List Value}(h:Ay w b e z A n c xs)(hw:∀k,(Aj A n c).ownBlock=some k→w'.heap[k]? = w.heap[k]?):Ay w' b e z A n c xs:=by
 obtain⟨h1,h2⟩:=h;rcases h2 with⟨hv,h0⟩|⟨g,cap,cur,hv,hb,hg,h3⟩
 ·exact⟨h1,.inl ⟨hv,h0⟩⟩
 ·exact⟨h1,.inr ⟨g,cap,cur,hv,hb,(hw g (by rw[hv];rfl)).trans hg,h3⟩⟩
theorem Bg.win {v:Value}{l:List Int}(h:Bg w b v l)(hw:∀k,b≤k→k<w.heap.size→w'.heap[k]? = w.heap[k]?):Bg w' b v l:=by
 obtain⟨A,n,c,rfl,h1,h2⟩:=h;exact⟨A,n,c,rfl,Ay.win h1 hw,h2⟩
theorem G6.win {A:Option Addr}{n c:Nat}{ls:List (List Int)}(h:G6 w b A n c ls)(hw:∀k,b≤k→k<w.heap.size→w'.heap[k]? = w.heap[k]?):G6 w' b A n c ls:=by
 obtain⟨xs,h1,⟨h2,h3⟩,h4⟩:=h;refine⟨xs,Ay.win h1 hw,⟨h2,fun i hi=>?_⟩,h4⟩
 obtain⟨v,e1,e2,e3⟩:=h3 i hi;exact⟨v,e1,e2.win hw,e3⟩
theorem D3.win {v:Value}{h:Hi}(hh:D3 w b v h)(hw:∀k,b≤k→k<w.heap.size→w'.heap[k]? = w.heap[k]?):D3 w' b v h:=by
 obtain⟨A,n,c,S,sn,sc,P,pn,pc,rfl,h1,h2,h3⟩:=hh;exact⟨A,n,c,S,sn,sc,P,pn,pc,rfl,h1.win hw,h2.win hw,h3.win hw⟩
end
def Fq (w:World)(b:Nat)(L v:Value)(h:Hi):Prop:=∀w':World,(∀k,b≤k→k<w.heap.size→L.ownBlock≠some k→w'.heap[k]? = w.heap[k]?)→D3 w' b v h
theorem Fq.keep {L v:Value}{h:Hi}(hh:Fq w b L v h)(hs:w.heap.size≤w'.heap.size)(hw:∀k,b≤k→k<w.heap.size→L.ownBlock≠some k→w'.heap[k]? = w.heap[k]?):Fq w' b L v h:=
 fun w'' h2=>hh w'' fun k h3 h4 h5=>(h2 k h3 (by omega) h5).trans (hw k h3 h4 h5)
theorem Fq.ext {L v:Value}{h:Hi}(hh:Fq w b L v h)(he:Al w w'):Fq w' b L v h:=hh.keep he.hsize fun k _ h2 _=>he.block k h2
theorem Fq.lower {b b':Nat}{L v:Value}{h:Hi}(hh:Fq w b L v h)(hb:b'≤b):Fq w b' L v h:=
 fun w' h2=>(hh w' fun k h3 h4 h5=>h2 k (by omega) h4 h5).lower hb
theorem Fq.of {L v:Value}{h:Hi}(hh:D3 w b v h)(hL:∀k,L.ownBlock=some k→w.heap.size≤k):Fq w b L v h:=
 fun w' h2=>hh.win fun k h3 h4=>h2 k h3 h4 fun e=>by have:=hL k e;omega
theorem Fq.grown {b g:Nat}{L v:Value}{h:Hi}(hh:Fq w b L v h)(hg:w.grownBy w' (some g))(hn:g<b∨L.ownBlock=some g):Fq w' b L v h:=
 hh.keep hg.size fun k h1 h2 h3=>hg.block k h2 (fun e=>by
  injection e with e;subst e;rcases hn with hn|hn
  ·omega
  ·exact h3 hn)
theorem Cd {u:Value}{k:Nat}(h:k≠p.block):(w.setCell p u).heap[k]? = w.heap[k]?:=by
 show(w.heap.modify p.block _)[k]? = _
 rw[Array.getElem?_modify,if_neg (fun e=>h e.symm)]
theorem Xu (w:World)(p:Addr)(u:Value):(w.setCell p u).heap.size=w.heap.size:=by simp[World.setCell]
theorem Fq.setCell {L v:Value}{h:Hi}(hh:Fq w b L v h)(hp:p.block<b)(u:Value):Fq (w.setCell p u) b L v h:=
 hh.keep (by rw[Xu];exact Nat.le_refl _) fun k h1 _ _=>Cd (by omega)
theorem Fq.pat {L:Value}{O S P2 B:Option Addr}{n c sn sc pn2 pc2 t z:Nat}{mo at_:Int}{ol ol':Bool}{h:Hi}{p:List Int}(hh:Fq w b L (.agg (Ce O n c mo at_ S sn sc P2 pn2 pc2 ol)) h)
 (hp:Bg w b (.slice B t z) p) (hne:∀g,(Aj B t z).ownBlock=some g→L.ownBlock≠some g):Fq w b L (.agg (Ce O n c mo at_ S sn sc B t z ol')) ⟨h.lines,h.most,h.at_,h.scratch,p,ol'⟩:=by
 intro w' h2;obtain⟨ls,mo',at',sl,pl,ol2⟩:=h;obtain⟨A',n',c',S',sn',sc',P',pn',pc',e,h3,h4,h5⟩:=hh w' h2;simp only[Ce,Value.agg.injEq,Array.mk.injEq,List.cons.injEq,Value.slice.injEq,Value.int.injEq,Value.bool.injEq,and_true,true_and]at e;obtain⟨⟨rfl,rfl,rfl⟩,rfl,rfl,⟨rfl,rfl,rfl⟩,_,_⟩:=e;obtain⟨A,m,d,e,ho,h6⟩:=hp;refine⟨_,_,_,_,_,_,_,_,_,rfl,h3,h4,A,m,d,e,?_,h6⟩
 injection e with e1 e2 e3;subst e1;subst e2;subst e3;exact Ay.same ho fun k hk=>h2 k (Ay.blk ho k hk).1 (Ay.blk ho k hk).2 (hne k hk)
section
variable {N:List Nat} {w w' w'':World} {base e z n c:Nat} {A:Option Addr} {xs:List Value}
theorem Bg.eqv {b:Nat}{v:Value}{l:List Int}(h:Bg w b v l)(he:Rq N w w')(hb:∀k,v.ownBlock=some k→k∉N):Bg w' b v l:=by
 obtain⟨A,n,c,rfl,h1,h2,h3⟩:=h;exact⟨A,n,c,rfl,Ay.eqv h1 he hb,h2,h3⟩
end
def L7 (w:World)(b:Nat)(N:List Nat)(A:Option Addr)(n c:Nat)(ls:List (List Int)):Prop:=
 ∃xs,Ay w b 27 1 A n c xs∧Rp w b (Aj A n c).ownBlock xs ls∧(A=none→c=0)∧(∀k,(Aj A n c).ownBlock=some k→k∉N)∧∀(i:Nat) v,xs[i]? = some v→∀k,v.ownBlock=some k→k∉N
section
variable {N:List Nat} {w w':World} {b n c:Nat} {A:Option Addr} {ls:List (List Int)}
theorem L7.o (h:L7 w b N A n c ls):G6 w b A n c ls:=by obtain⟨xs,h1,h2,h3,_⟩:=h;exact⟨xs,h1,h2,h3⟩
theorem Rp.eqv {row:Option Nat}{xs:List Value}(h:Rp w b row xs ls)(he:Rq N w w')(hb:∀(i:Nat) v,xs[i]? = some v→∀k,v.ownBlock=some k→k∉N):Rp w' b row xs ls:=
 ⟨h.1,fun i hi=>by obtain⟨v,h1,h2,h3⟩:=h.2 i hi;exact⟨v,h1,h2.eqv he (hb i v h1),h3⟩⟩
theorem L7.eqv (h:L7 w b N A n c ls)(he:Rq N w w'):L7 w' b N A n c ls:=by
 obtain⟨xs,h1,h2,h3,h4,h5⟩:=h;exact⟨xs,Ay.eqv h1 he h4,h2.eqv he h5,h3,h4,h5⟩
theorem L7.fewer {M:List Nat}(h:L7 w b N A n c ls)(hm:∀k,k∈M→k∈N):L7 w b M A n c ls:=by
 obtain⟨xs,h1,h2,h3,h4,h5⟩:=h;exact⟨xs,h1,h2,h3,fun k hk hn=>h4 k hk (hm k hn),fun i v hv k hk hn=>h5 i v hv k hk (hm k hn)⟩
theorem L7.ext (h:L7 w b N A n c ls)(he:Al w w'):L7 w' b N A n c ls:=h.eqv (he.eqv N)
theorem L7.lower {b':Nat}(h:L7 w b N A n c ls)(hb:b'≤b):L7 w b' N A n c ls:=by
 obtain⟨xs,h1,h2,h3,h4,h5⟩:=h;exact⟨xs,Ay.lower h1 hb,⟨h2.1,fun i hi=>by obtain⟨v,k1,k2,k3⟩:=h2.2 i hi;exact⟨v,k1,k2.lower hb,k3⟩⟩,h3,h4,h5⟩
theorem G6.apart (h:G6 w b A n c ls)(hN:∀k,b≤k→k<w.heap.size→k∉N):L7 w b N A n c ls:=by
 obtain⟨xs,h1,h2,h3⟩:=h;refine⟨xs,h1,h2,h3,fun k hk=>?_,fun i v hv k hk=>?_⟩
 ·have:=Ay.blk h1 k hk
  exact hN k this.1 this.2
 ·have hi:i<ls.length:=by rw[←h2.1];exact(List.getElem?_eq_some_iff.1 hv).1
  obtain⟨v',k1,k2,_⟩:=h2.2 i hi;rw[hv]at k1;injection k1 with k1;subst k1;have:=k2.blk k hk;exact hN k this.1 this.2
end
end
