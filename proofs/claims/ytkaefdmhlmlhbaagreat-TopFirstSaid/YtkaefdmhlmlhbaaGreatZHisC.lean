/-
  Part ZHisC.
-/
import Derived.Test.YtkaefdmhlmlhbaaGreatZRegA
import Derived.Deep.RegionHeld3
import Derived.Deep.DeepCutAuto
import Derived.Deep.RegionLaw
set_option maxRecDepth 100000
set_option maxHeartbeats 16000000
set_option linter.unusedVariables false
set_option linter.unusedSimpArgs false
namespace Go.Proofs.YtkaefdmhlmlhbaaGreat
open Go.RowKit
open _root_.Go.Proofs.Tryz
open _root_.List renaming getElem?_append_left→Bs,getElem?_append_right→Bx
open _root_.Nat renaming le_refl→Aj,le_trans→Ar
open Value renaming oneCell'→Bw,slice→Ak
section
variable {w w':World}{b:Nat}{ls:List (List Int)}{xs:List Value}{A:Option Addr}{p:Addr}
structure Hi where
 lines:List (List Int)
 most:Int
 at_:Int
 scratch:List Int
 pattern:List Int
 older:Bool
def Hi.zero:Hi:=⟨[],0,0,[],[],false⟩
def Ct (A:Option Addr)(n c:Nat)(mo at_:Int)(S:Option Addr)(sn sc:Nat)(P:Option Addr)(pn pc:Nat)(o:Bool):Array Value:=#[.slice A n c,.int .i64 mo,.int .i64 at_,.slice S sn sc,.slice P pn pc,.bool o]
def My (w:World)(v:Value)(h:Hi):Prop:=∃A n c S sn sc P pn pc,v=.agg (Ct A n c h.most h.at_ S sn sc P pn pc h.older)∧Ym w A n c h.lines∧(A=none→c=0)∧Mf w (.slice S sn sc) h.scratch∧Mf w (.slice P pn pc) h.pattern
def Hi.all (h:Hi):List (List Int):=h.lines++[h.scratch,h.pattern]
def Hi.bad (h:Hi):Prop:=h.most<1∨50<h.most∨h.most<h.lines.length∨h.at_<0∨(h.lines.length:Int)<h.at_
def Hi.long (h:Hi):Prop:=∃i,i<h.all.length∧200<(gL h.all i).length
instance (h:Hi):Decidable h.bad:=by unfold Hi.bad;infer_instance
def To (h:Hi)(x:Int):Prop:=(h.bad∧x=1)∨(¬h.bad∧h.long∧x=2)∨(¬h.bad∧¬h.long∧x=0)
theorem To.zero {h:Hi}{x:Int}(hc:To h x)(hx:x=0):¬h.bad∧¬h.long:=by
 rcases hc with⟨_,h1⟩|⟨_,_,h1⟩|⟨h1,h2,_⟩
 ·omega
 ·omega
 ·exact⟨h1,h2⟩
theorem Mf.one {v:Value}{l:List Int}(h:Mf w v l):v.oneCell'=true:=by obtain⟨A,n,c,rfl,_⟩:=h;rfl
theorem Cu {g t:Nat}{a b c d e f:Value}(h:Aq w g t #[a,b,c,d,e,f]):w.cell? ⟨g,0,none⟩=some a∧w.cell? ⟨g,1,none⟩=some b∧w.cell? ⟨g,2,none⟩=some c∧w.cell? ⟨g,3,none⟩=some d∧w.cell? ⟨g,4,none⟩=some e∧w.cell? ⟨g,5,none⟩=some f:=
 ⟨h.cell 0,h.cell 1,h.cell 2,h.cell 3,h.cell 4,h.cell 5⟩
theorem Rd.litAtHisC (w:World)(t:TypeId)(xs:List Value){n g:Nat}(hg:g=w.heap.size)(hn:n=xs.length)(hm:n≤1000):Rd (w.alloc (.cells xs.toArray t)) 1 (some ⟨g,0,none⟩) n n xs:=by
 subst hg;subst hn;refine⟨by simp,Aj _,by unfold maxLen;omega,fun _=>⟨_,rfl,fun j u hu=>?_⟩⟩
 exact I61
theorem fI.two {u v:Value}{l m:List Int}(h:fI w xs ls)(hu:Mf w u l)(hv:Mf w v m):fI w (xs++[u,v]) (ls++[l,m]):=by
 refine⟨by simp[h.1],fun i hi=>?_⟩
 rw[List.length_append]at hi;simp only[List.length_cons,List.length_nil]at hi;rcases Nat.lt_or_ge i ls.length with ae|ku
 ·obtain⟨x,h1,h2⟩:=h.2 i ae
  refine⟨x,by rw[Bs (by rw[h.1];exact ae)];exact h1,?_⟩
  unfold gL;rw[Bs ae];exact h2
 ·have:i=ls.length∨i=ls.length+1:=by omega
  rcases this with rfl|rfl
  ·refine⟨u,by rw[Bx (by rw[h.1];exact Aj _),h.1,Nat.sub_self];rfl,?_⟩
   unfold gL;rw[Bx (Aj _),Nat.sub_self];exact hu
  ·refine⟨v,by rw[Bx (by rw[h.1];omega),h.1,show ls.length+1-ls.length=1 by omega];rfl,?_⟩
   unfold gL;rw[Bx (by omega),show ls.length+1-ls.length=1 by omega]
   exact hv
theorem Low3.call {W w1 w2:World}{g:Nat}{u v x:Value}(h:w1.cell? ⟨g,0,none⟩=some u∧w1.cell? ⟨g,3,none⟩=some v∧w1.cell? ⟨g,4,none⟩=some x∧An W w1)(he:An w1 w2):
 w2.cell? ⟨g,0,none⟩=some u∧w2.cell? ⟨g,3,none⟩=some v∧w2.cell? ⟨g,4,none⟩=some x∧An W w2:=⟨he.cell h.1,he.cell h.2.1,he.cell h.2.2.1,h.2.2.2.trans he⟩
theorem Zk {v:Value}{h:Hi}(hv:My w v h):
 Calls prog 128 #[v] w fun e w'=>∃x:Int,e=.returned (.int .i64 x)∧To h x∧An w w':=by
 obtain⟨i0,hi,bm,bz,az⟩:=info_parts Ns;obtain⟨ls,mo,at_,sl,pl,ol⟩:=h;obtain⟨A,n,c,S,sn,sc,P,pn,pc,rfl,hL,hA,hS,hP⟩:=hv;unfold Ct;simp only at hL hS hP ⊢;have hn:=hL.len;have HL:=A6 hL;have HS:=A6 hS;have HP:=A6 hP;have ky:=Ar hL.ncap hL.nmax;unfold maxLen at ky;have HN:=A6 hn;clear hL hS hP hn;by_cases hb:mo<1∨50<mo∨mo<n∨at_<0∨(n:Int)<at_
 ·have HB:Hid (To ⟨ls,mo,at_,sl,pl,ol⟩ 1):=A6 (.inl ⟨by unfold Hi.bad;simp only;rw[HN.out];exact hb,rfl⟩)
  by_cases h1:mo<1
  ·exact I12
  by_cases h2:50<mo
  ·exact I12
  by_cases h3:mo<n
  ·exact I12
  by_cases h4:at_<0
  ·exact I12
  ·have h5:(n:Int)<at_:=by omega
   exact I12
 ·have HB:Hid (¬(⟨ls,mo,at_,sl,pl,ol⟩:Hi).bad):=A6 (by unfold Hi.bad;simp only;rw[HN.out];exact hb)
  have h1:1≤mo:=by omega
  have h2:mo≤50:=by omega
  have h3:(n:Int)≤mo:=by omega
  have h4:0≤at_:=by omega
  have h5:at_≤n:=by omega
  have h6:n≤50:=by omega
  clear hb;obtain⟨xs,hR,hV⟩:=HL.out;have am:=An.alloc w (.cells #[.slice A n c,mo,at_,.slice S sn sc,.slice P pn pc,ol] 94);obtain⟨k0,k1,k2,k3,k4,k5⟩:=Cu (Aq.new w 94 #[.slice A n c,.int .i64 mo,.int .i64 at_,.slice S sn sc,.slice P pn pc,.bool ol]);have HR:=A6 (Rd.ext hR am);have HV:=A6 hV;have HX:=A6 am;clear hR hV am HL;go_enter func128,ntmps128
  go_wp2_with fail
  generalize hW:w.alloc (.cells #[.slice A n c,mo,at_,.slice S sn sc,.slice P pn pc,ol] 94)=W at*;generalize w.heap.size=g1 at*;have fj:=An.drew W;have GI:Hid (∀wq,An W wq→Calls prog 158 #[.slice A n c] wq fun e w'=>∃B d,e=.returned (.slice B n d)∧Bd w' wq.heap.size 25 1 B n d xs∧(B=none→d=0)∧An wq w'):=A6 (fun wq he=>pS (Rd.ext HR.out he) HV.out.one hA (by omega))
  have HBS:Hid (W.heap.size≤W.heap.size):=A6 (Aj _);have DO:∀u∈[Ak S sn sc,Ak P pn pc],u.oneCell'=true:=by intro u hu;simp at hu;rcases hu with rfl|rfl<;>rfl
  have oz:=A6 DO;clear hW DO k1 k2 k5;go_region_held3 (fun w'=>w'.cell? ⟨g1,0,none⟩=some (.slice A n c)∧w'.cell? ⟨g1,3,none⟩=some (.slice S sn sc)∧w'.cell? ⟨g1,4,none⟩=some (.slice P pn pc)∧An W w') (first
   |assumption
   |exact⟨k0,k3,k4,fj⟩
   |exact Low3.call (W:=W) (g:=g1) (u:=.slice A n c) (v:=.slice S sn sc) (x:=.slice P pn pc) (by assumption) (An.alloc _ _)) (first
   |(
    go_at_call 158
    refine(GI.out _ (And.right (And.right (And.right (by assumption:_∧_∧_∧An W _))))).mono ?_
    rintro e wa ⟨B,d,rfl,oc,FW,MM⟩;have uk:Bd wa W.heap.size 25 1 B n d xs:=Bd.lower oc (by first|exact Aj _|simp)
    have NF:=Low3.call (W:=W) (g:=g1) (u:=.slice A n c) (v:=.slice S sn sc) (x:=.slice P pn pc) (by assumption) MM)
   |(
    refine So rfl (.tmp 36) (.tmp 41) 39 rfl W W.heap.size 25 i0 (.slice none 0 0) 1 24 underlying39 hi bm bz az rfl (by decide) B n d xs rfl (by first|exact uk|exact Bd.ext uk (An.alloc _ _)) _ 2 2 [.slice S sn sc,.slice P pn pc] rfl (by first|exact Rd.litAtHisC _ _ [.slice S sn sc,.slice P pn pc] (by first|rfl|simp) rfl (by omega)|exact Rd.ext (Rd.litAtHisC _ _ [.slice S sn sc,.slice P pn pc] (by first|rfl|simp) rfl (by omega)) ((An.drew _).trans MM)) oz.out (by unfold maxLen;omega) (by omega) (by first|exact NF.2.2.2|exact An.to_alloc NF.2.2.2 _) (Aj _) (by first|exact(An.hsize NF.2.2.2)|exact(An.hsize (An.to_alloc NF.2.2.2 _))) ?_
    intro O2 d2 w3 db av cf bg;have NG:w3.cell? ⟨g1,0,none⟩=some (.slice A n c)∧w3.cell? ⟨g1,3,none⟩=some (.slice S sn sc)∧w3.cell? ⟨g1,4,none⟩=some (.slice P pn pc)∧An W w3:=⟨bg.cell k0,bg.cell k3,bg.cell k4,bg⟩))
  all_goals
   have hV3:fI w3 (xs++[.slice S sn sc,.slice P pn pc]) (ls++[sl,pl]):=fI.two (HV.out.ext (HX.out.trans bg)) (HS.out.ext (HX.out.trans bg)) (HP.out.ext (HX.out.trans bg));have sy:Hid (Ym w3 O2 (n+2) d2 (ls++[sl,pl])):=A6 ⟨_,Bd.rd db,hV3⟩;have hnd:=sy.out.ncap;have wn:=sy.out.nmax;unfold maxLen at wn;have gu:=A6 (HX.out.trans bg);have NH:=A6 sy.out.len;clear hV3 db av cf bg NG oc uk FW MM NF GI oz HBS k0 k3 k4 fj HR;go_wp2_with fail
   go_loopw [44] (fun s44 wx=>∃k:Nat,k≤n+2∧s44=.int .i64 k∧Hid (∀j,j<k→(gL (ls++[sl,pl]) j).length≤200)∧wx=w3) (fun s44 _=>n+2-(intOf s44).toNat)
   case atStart=>exact⟨0,by omega,rfl,A6 (fun j hj=>by omega),rfl⟩
   case round=>
    obtain⟨k,hk,rfl,Hle,rfl⟩:=hrel;by_cases ae:k<n+2
    ·obtain⟨ad,v,rfl,hc,A',n',c',rfl,hI,_⟩:=sy.out.at_ ae
     have eq:=A6 hI.len;have uc:=Ar hI.ncap hI.nmax;unfold maxLen at uc;clear hI;by_cases hb:200<n'
     ·have HC:Hid (To ⟨ls,mo,at_,sl,pl,ol⟩ 2):=A6 (.inr (.inl ⟨HB.out,⟨k,by rw[show(Hi.all ⟨ls,mo,at_,sl,pl,ol⟩)=ls++[sl,pl]from rfl,NH.out];exact ae,by rw[show(Hi.all ⟨ls,mo,at_,sl,pl,ol⟩)=ls++[sl,pl]from rfl,eq.out];exact hb⟩,rfl⟩))
      go_wp2_with fail
      go_ret
      exact⟨2,rfl,HC.out,gu.out⟩
     ·go_wp2_with fail
      go_roundw
      case rel=>exact⟨k+1,by omega,by go_num,A6 (fun j hj=>by
       by_cases qm:j=k
       ·rw[qm,eq.out];omega
       ·exact Hle.out j (by omega)),(by first|rfl|trivial)⟩
      case measure=>simp[intOf];omega
    ·obtain rfl:k=n+2:=by omega
     have HC:Hid (To ⟨ls,mo,at_,sl,pl,ol⟩ 0):=A6 (.inr (.inr ⟨HB.out,fun⟨i,h1,h2⟩=>by
      rw[show(Hi.all ⟨ls,mo,at_,sl,pl,ol⟩)=ls++[sl,pl]from rfl]at h1 h2
      rw[NH.out]at h1;have:=Hle.out i h1;omega,rfl⟩))
     go_wp2_with fail
     go_ret
     exact⟨0,rfl,HC.out,gu.out⟩
def Dp (w:World)(b:Nat)(v:Value)(h:Hi):Prop:=∃A n c S sn sc P pn pc,v=.agg (Ct A n c h.most h.at_ S sn sc P pn pc h.older)∧Hn w b A n c h.lines∧Bl w b (.slice S sn sc) h.scratch∧Bl w b (.slice P pn pc) h.pattern
theorem Hn.nocap {n c:Nat}(h:Hn w b A n c ls):A=none→c=0:=h.choose_spec.2.2
theorem Dp.v {v:Value}{h:Hi}(hh:Dp w b v h):My w v h:=by
 obtain⟨A,n,c,S,sn,sc,P,pn,pc,rfl,h1,h2,h3⟩:=hh;exact⟨A,n,c,S,sn,sc,P,pn,pc,rfl,h1.lns,h1.nocap,h2.sl,h3.sl⟩
theorem My.ext {v:Value}{h:Hi}(hh:My w v h)(he:An w w'):My w' v h:=by
 obtain⟨A,n,c,S,sn,sc,P,pn,pc,rfl,h1,h2,h3,h4⟩:=hh;exact⟨A,n,c,S,sn,sc,P,pn,pc,rfl,h1.ext he,h2,h3.ext he,h4.ext he⟩
theorem Dp.ext {v:Value}{h:Hi}(hh:Dp w b v h)(he:An w w'):Dp w' b v h:=by
 obtain⟨A,n,c,S,sn,sc,P,pn,pc,rfl,h1,h2,h3⟩:=hh;exact⟨A,n,c,S,sn,sc,P,pn,pc,rfl,h1.ext he,h2.ext he,h3.ext he⟩
theorem Dp.lower {b b':Nat}{v:Value}{h:Hi}(hh:Dp w b v h)(hb:b'≤b):Dp w b' v h:=by
 obtain⟨A,n,c,S,sn,sc,P,pn,pc,rfl,h1,h2,h3⟩:=hh;exact⟨A,n,c,S,sn,sc,P,pn,pc,rfl,h1.lower hb,h2.lower hb,h3.lower hb⟩
theorem Bd.nocap' {base e z n c:Nat}(h:Bd w base e z A n c xs):A=none→c=0:=by
 exact I87
theorem Dp.setRow {v:Value}{h:Hi}(hh:Dp w b v h){g:Nat}(hg:g<b)(us:Array Value):Dp (w.setRow g us) b v h:=by
 obtain⟨A,n,c,S,sn,sc,P,pn,pc,rfl,h1,h2,h3⟩:=hh;exact⟨A,n,c,S,sn,sc,P,pn,pc,rfl,h1.setRow hg us,h2.setRow hg us,h3.setRow hg us⟩
theorem Dp.setCell {v:Value}{h:Hi}(hh:Dp w b v h)(hp:p.block<b)(u:Value):Dp (w.setCell p u) b v h:=by
 obtain⟨A,n,c,S,sn,sc,P,pn,pc,rfl,h1,h2,h3⟩:=hh;exact⟨A,n,c,S,sn,sc,P,pn,pc,rfl,h1.setCell hp u,h2.setCell hp u,h3.setCell hp u⟩
theorem oU:(prog.info? 94).map (·.size)=some 6:=by kernel_rfl
theorem Fm {cs:Array Value}(h:cs.size=6):(prog.info? 94).map (·.size)=some cs.size:=by rw[h];exact oU
theorem vK (A:Option Addr)(n c:Nat)(mo at_:Int)(S:Option Addr)(sn sc:Nat)(P:Option Addr)(pn pc:Nat)(o:Bool):(Ct A n c mo at_ S sn sc P pn pc o).all (·.oneCell')=true:=by
 unfold Ct;simp[Bw]
theorem lD {k:Nat}(h:k<ls.length):ls.take (k+1)=ls.take k++[gL ls k]:=by
 rw[List.take_succ_eq_append_getElem h];unfold gL;rw[List.getElem?_eq_getElem h]
 rfl
theorem Xp {v:Value}{h:Hi}(hv:My w v h)(CP:h.lines.length≤1000):
 Calls prog 129 #[v] w fun e w'=>∃u,e=.returned u∧Dp w' w.heap.size u h∧An w w':=by
 obtain⟨i0,hi,bm,bz,az⟩:=info_parts Ns;obtain⟨ls,mo,at_,sl,pl,ol⟩:=h;obtain⟨A,n,c,S,sn,sc,P,pn,pc,rfl,hL,hA,hS,hP⟩:=hv;unfold Ct;simp only at hL hS hP CP ⊢;have hn:=hL.len;have HL:=A6 hL;have HS:=A6 hS;have HP:=A6 hP;have ep:n≤1000:=by omega
 have HN:=A6 hn;clear hL hS hP hn CP;have a9:Hid (Aq ((w.alloc (.cells #[(),mo,at_,.slice S sn sc,.slice P pn pc,ol] 94)).alloc (.cells #[(),(0:Int),(0:Int),(),(),false] 94)) w.heap.size 94 #[.slice none 0 0,.int .i64 mo,.int .i64 at_,.slice S sn sc,.slice P pn pc,.bool ol]):=A6 ((Aq.new w _ _).ext (An.alloc _ _));have al:Hid (Aq ((w.alloc (.cells #[(),mo,at_,.slice S sn sc,.slice P pn pc,ol] 94)).alloc (.cells #[(),(0:Int),(0:Int),(),(),false] 94)) (w.heap.size+1) 94 #[.slice none 0 0,.int .i64 0,.int .i64 0,.slice none 0 0,.slice none 0 0,.bool false]):=A6 (by
  have:=Aq.new (w.alloc (.cells #[(),mo,at_,.slice S sn sc,.slice P pn pc,ol] 94)) 94 #[.slice none 0 0,.int .i64 0,.int .i64 0,.slice none 0 0,.slice none 0 0,.bool false]
  rwa[World.size_alloc]at this)
 have am:Hid (An w ((w.alloc (.cells #[(),mo,at_,.slice S sn sc,.slice P pn pc,ol] 94)).alloc (.cells #[(),(0:Int),(0:Int),(),(),false] 94))):=A6 ((An.alloc _ _).to_alloc _);have f7:w.heap.size+2≤((w.alloc (.cells #[(),mo,at_,.slice S sn sc,.slice P pn pc,ol] 94)).alloc (.cells #[(),(0:Int),(0:Int),(),(),false] 94)).heap.size:=by simp
 go_enter func129,ntmps129
 go_wp2_with fail
 go_loopw [11] (fun s11 wx=>∃(k:Nat) (O:Option Addr) (d:Nat),k≤n∧s11=.int .i64 k∧Hid (Aq wx w.heap.size 94 #[.slice O k d,.int .i64 mo,.int .i64 at_,.slice S sn sc,.slice P pn pc,.bool ol])∧Hid (Aq wx (w.heap.size+1) 94 #[.slice none 0 0,.int .i64 0,.int .i64 0,.slice none 0 0,.slice none 0 0,.bool false])∧Hid (An w wx)∧Hid (Hn wx (w.heap.size+2) O k d (ls.take k))∧w.heap.size+2≤wx.heap.size) (fun s11 _=>n-(intOf s11).toNat)
 case atStart=>exact⟨0,none,0,by omega,rfl,a9,al,am,A6 (by simpa using Hn.nil _ _),f7⟩
 case round=>
  clear a9 al am f7;obtain⟨k,O,d,hk,rfl,gh,mt,Hx,HO,dl⟩:=hrel;have GP:w.heap.size<wr.heap.size:=by omega
  by_cases ae:k<n
  ·obtain⟨ad,v,rfl,hc,B,m,q,rfl,hI,hB,hm⟩:=(HL.out.ext Hx.out).at_ ae
   obtain⟨xs,s9,db,_⟩:=HO.out;have HC:=A6 (Dj (hI.ext (An.drew wr)) hB hm);obtain⟨a0,_⟩:=Cu gh.out;have a1:wr.drew.cell? ⟨w,0,none⟩=some (.slice O k d):=a0;have o3:=A6 s9;have np:=A6 db;clear hI s9 db HO;go_upto_region 6 with fail
   go_region_law (first
    |(
     refine Kh rfl 35 #[.slice B m q] (by kernel_rfl) (fun v w'=>∃B2 d2,v=.slice B2 m d2∧Ba w' wr.drew.heap.size B2 m d2 (gL ls k)∧(B2=none→d2=0)∧An wr.drew w') (HC.out.mono fun e w' ⟨B2,d2,h1,h2⟩=>⟨_,h1,B2,d2,rfl,h2⟩) ?_
     rintro v w2 ⟨B2,q2,rfl,le,aw,kd⟩;have b1:=kd.cell a1;have b2:(w2.alloc (.cells #[.slice B2 m q2] 25)).cell? ⟨w,0,none⟩=some (.slice O k d):=An.cell (An.alloc _ _) b1)
    |(
     refine Pz rfl (.tmp 16) (.tmp 19) 39 rfl w (w.heap.size+2) 25 i0 _ 1 24 underlying39 hi bm bz az rfl (by decide) O k d xs rfl (Bd.ext o3.out ((An.drew wr).trans kd)) #[.slice B2 m q2] rfl (by simp[Bw]) rfl (by unfold maxLen;omega) (by omega) (Hx.out.trans ((An.drew wr).trans kd)) (by omega) (Ar dl (Ar (An.hsize (An.drew wr)) kd.hsize)) ?_
     intro O3 d3 w3 cv av cf bg;have ap:=Aq.grown (Aq.ext gh.out ((An.drew wr).trans kd)) av (fun e=>by have:=(Bd.blk o3.out _ e.symm).1;omega)
     have c0:=ap.cell 0;have f0:=ap.frozen 0;simp only[List.getElem?_toArray,List.getElem?_cons_zero]at c0))
   all_goals
    have au:=(An.drew wr).trans kd;have GQ:wr.heap.size≤w2.heap.size:=au.hsize;have DB:∀g,(Ak O k d).ownBlock=some g→g<wr.heap.size:=fun g hg=>(Bd.blk o3.out g hg).2
    have jx:∀g,(Ak B2 m q2).ownBlock=some g→wr.heap.size≤g∧g<w2.heap.size:=fun g hg=>Bd.blk le g hg
    have jn:(Ak B2 m q2).ownBlock=none∨(Ak B2 m q2).ownBlock≠(Ak O k d).ownBlock:=by
     exact I62
    have kt:(Ak B2 m q2).ownBlock=none∨(Ak B2 m q2).ownBlock≠(Ak O3 (k+1) d3).ownBlock:=by
     exact I34
    have jz:Bl w3 (w.heap.size+2) (.slice B2 m q2) (gL ls k):=⟨B2,m,q2,rfl,Bd.kept (Bd.lower le (Ar dl (Aj _))) av jn,aw,hm⟩;have hold:Ud w3 (w.heap.size+2) (Ak O3 (k+1) d3).ownBlock xs (ls.take k):=(np.out.ext au).grown av cf;have ax:Hn w3 (w.heap.size+2) O3 (k+1) d3 (ls.take (k+1)):=⟨xs++[.slice B2 m q2],by simpa using cv,by rw[lD (by rw[HN.out];exact ae)];exact hold.snoc jz kt,Bd.nocap' cv⟩
    have sy:=A6 (ax.setCell (p:=⟨w,0,none⟩) (show w.heap.size<w.heap.size+2 by omega) (.slice O3 (k+1) d3))
    have dz:Hid (Aq (w3.setCell ⟨w,0,none⟩ (.slice O3 (k+1) d3)) w.heap.size 94 #[.slice O3 (k+1) d3,.int .i64 mo,.int .i64 at_,.slice S sn sc,.slice P pn pc,.bool ol]):=A6 (ap.set_ 0 (.slice O3 (k+1) d3));have eh:=A6 (Bn (Aq.grown (Aq.ext mt.out au) av (fun e=>by have:=(Bd.blk o3.out _ e.symm).1;omega)) (show w.heap.size≠w.heap.size+1 by omega) 0 (.slice O3 (k+1) d3))
    have gu:=A6 (bg.setCell (p:=⟨w,0,none⟩) (Aj _) (.slice O3 (k+1) d3));have nd:w.heap.size+2≤(w3.setCell ⟨w,0,none⟩ (.slice O3 (k+1) d3)).heap.size:=eh.out.lt;clear cv av cf bg ap c0 f0 le aw kd b1 b2 au GQ DB jx jn kt jz hold ax a0 a1 o3 np gh mt Hx HC hc hB hm dl GP;go_wp2_with fail
    go_roundw
    case rel=>exact⟨k+1,O3,d3,by omega,by go_num,dz,eh,gu,sy,nd⟩
    case measure=>simp[intOf];omega
  ·obtain rfl:k=n:=by omega
   rw[List.take_of_length_le (by rw[HN.out];exact Aj _)]at HO
   obtain⟨B3,m3,q3,vv,JC,ir,dt⟩:=HS.out.ext Hx.out;injection vv with h1 h2 h3;subst h1;subst h2;subst h3;obtain⟨B4,m4,q4,hh4,hI4,xo,kf⟩:=HP.out.ext Hx.out;injection hh4 with h1 h2 h3;subst h1;subst h2;subst h3;obtain⟨_,_,_,k3,k4,_⟩:=Cu gh.out;have d3':wr.drew.cell? ⟨w,3,none⟩=some (.slice S sn sc):=k3;have d4':wr.drew.cell? ⟨w,4,none⟩=some (.slice P pn pc):=k4;have HC3:=A6 (Dj (JC.ext (An.drew wr)) ir dt);have NI:Hid (∀wq,An wr wq→Calls prog 35 #[.slice P pn pc] wq fun e w'=>∃B d,e=.returned (.slice B pn d)∧Ba w' wq.heap.size B pn d pl∧(B=none→d=0)∧An wq w'):=A6 (fun wq he=>Dj (hI4.ext he) xo kf)
   clear JC hI4;go_upto_region 8 with fail
   go_region_law (first
    |(
     refine Kh rfl 35 #[.slice S sn sc] (by kernel_rfl) (fun v w'=>∃B2 d2,v=.slice B2 sn d2∧Ba w' wr.drew.heap.size B2 sn d2 sl∧(B2=none→d2=0)∧An wr.drew w') (HC3.out.mono fun e w' ⟨B2,d2,h1,h2⟩=>⟨_,h1,B2,d2,rfl,h2⟩) ?_
     rintro v w2 ⟨B5,q5,rfl,NJ,xq,ft⟩;have e3:=ft.cell d3';have e4:=ft.cell d4')
    |(
     refine Kh rfl 35 #[.slice P pn pc] (by kernel_rfl) (fun v w'=>∃B2 d2,v=.slice B2 pn d2∧Ba w' w2.heap.size B2 pn d2 pl∧(B2=none→d2=0)∧An w2 w') ((NI.out _ ((An.drew wr).trans ft)).mono fun e w' ⟨B2,d2,h1,h2⟩=>⟨_,h1,B2,d2,rfl,h2⟩) ?_
     rintro v w3 ⟨B6,q6,rfl,DP,NK,gr⟩;have ap:=Aq.ext (Aq.ext gh.out ((An.drew wr).trans ft)) gr;obtain⟨_,_,_,c3,c4,_⟩:=Cu ap;have f3:=ap.frozen 3;have f4:=ap.frozen 4))
   all_goals
    have dq:Aq ((w3.setCell ⟨w,3,none⟩ (.slice B5 sn q5)).setCell ⟨w,4,none⟩ (.slice B6 pn q6)) w.heap.size 94 (Ct O k d mo at_ B5 sn q5 B6 pn q6 ol):=(ap.set_ 3 (.slice B5 sn q5)).set_ 4 (.slice B6 pn q6);have ni:=((An.drew wr).trans ft).trans gr;have lw:=Bn (Bn (Aq.ext mt.out ni) (show w.heap.size≠w.heap.size+1 by omega) 3 (.slice B5 sn q5)) (show w.heap.size≠w.heap.size+1 by omega) 4 (.slice B6 pn q6)
    have hX7:An w ((w3.setCell ⟨w,3,none⟩ (.slice B5 sn q5)).setCell ⟨w,4,none⟩ (.slice B6 pn q6)):=((Hx.out.trans ni).setCell (p:=⟨w,3,none⟩) (Aj _) _).setCell (p:=⟨w,4,none⟩) (Aj _) _;have hO7:Dp ((w3.setCell ⟨w,3,none⟩ (.slice B5 sn q5)).setCell ⟨w,4,none⟩ (.slice B6 pn q6)) (w.heap.size+2) (.agg (Ct O k d mo at_ B5 sn q5 B6 pn q6 ol)) ⟨ls,mo,at_,sl,pl,ol⟩:=by
     have cd:w.heap.size<w.heap.size+2:=by omega
     refine⟨O,k,d,B5,sn,q5,B6,pn,q6,rfl,((HO.out.ext ni).setCell (p:=⟨w,3,none⟩) cd _).setCell (p:=⟨w,4,none⟩) cd _,?_,?_⟩
     ·have h5:Bl w3 (w.heap.size+2) (.slice B5 sn q5) sl:=⟨B5,sn,q5,rfl,(Bd.lower NJ (Ar dl (Aj _))).ext gr,xq,dt⟩
      exact(h5.setCell (p:=⟨w,3,none⟩) cd _).setCell (p:=⟨w,4,none⟩) cd _
     ·have h6:Bl w3 (w.heap.size+2) (.slice B6 pn q6) pl:=⟨B6,pn,q6,rfl,Bd.lower DP (Ar dl ((An.drew wr).trans ft).hsize),NK,kf⟩
      exact(h6.setCell (p:=⟨w,3,none⟩) cd _).setCell (p:=⟨w,4,none⟩) cd _
    have HE:=A6 dq;have H2:=A6 lw;have HX:=A6 hX7;have jH:=A6 hO7;clear dq lw hX7 hO7 ni c3 c4 f3 f4 ap DP NK gr NJ xq ft e3 e4 HC3 NI d3' d4' k3 k4 gh mt Hx HO;generalize (w3.setCell ⟨w,3,none⟩ (.slice B5 sn q5)).setCell ⟨w,4,none⟩ (.slice B6 pn q6)=W at*;have cm:(Ct O k d mo at_ B5 sn q5 B6 pn q6 ol).all (·.oneCell')=true:=vK ..;have SE:(Ct O k d mo at_ B5 sn q5 B6 pn q6 ol).size=6:=rfl;have hZO:Hid (Dp (W.setRow (w.heap.size+1) (Ct O k d mo at_ B5 sn q5 B6 pn q6 ol)) w.heap.size (.agg (Ct O k d mo at_ B5 sn q5 B6 pn q6 ol)) ⟨ls,mo,at_,sl,pl,ol⟩):=A6 ((jH.out.setRow (show w.heap.size+1<w.heap.size+2 by omega) _).lower (by omega))
    have hZX:=A6 (HX.out.setRow (show w.heap.size≤w.heap.size+1 by omega) (Ct O k d mo at_ B5 sn q5 B6 pn q6 ol))
    have dp:=A6 (H2.out.setRow (Ct O k d mo at_ B5 sn q5 B6 pn q6 ol));generalize ff:Ct O k d mo at_ B5 sn q5 B6 pn q6 ol=cs at*;clear ff;have NL:(#[.slice none 0 0,.int .i64 0,.int .i64 0,.slice none 0 0,.slice none 0 0,.bool false]:Array Value).size=cs.size:=by rw[SE];rfl
    have WE:=A6 SE;have WF:=A6 cm;have WG:=A6 NL;clear SE cm NL;go_wp2_with (first|(refine wpList_load_row rfl 94 (.tmp 1) rfl w.heap.size rfl 94 cs (0,0) _ HE.out underlying94 rfl (Fm WE.out) ?_)|(refine wpList_store_row rfl 94 (.tmp 2) (.tmp 31) rfl (w.heap.size+1) cs rfl rfl 94 _ H2.out (Fm WE.out) WG.out WF.out ?_))
    refine bodyPost_ret (v:=.agg cs) ?_ rfl ⟨_,rfl,hZO.out,hZX.out⟩
    exact results_cell_row rfl _ _ (w.heap.size+1) 94 _ _ _ rfl dp.out underlying94 rfl (Fm WE.out)
section
variable {w w':World} {b:Nat}
theorem Bd.win {e z n c:Nat}{A:Option Addr}{xs:List Value}(h:Bd w b e z A n c xs)(hw:∀k,b≤k→k<w.heap.size→w'.heap[k]? = w.heap[k]?):Bd w' b e z A n c xs:=by
 obtain⟨h1,h2⟩:=h;rcases h2 with⟨hv,h0⟩|⟨g,cap,cur,hv,hb,hg,h3⟩
 ·exact⟨h1,.inl ⟨hv,h0⟩⟩
 ·exact⟨h1,.inr ⟨g,cap,cur,hv,hb,(hw g hb (Array.getElem?_eq_some_iff.1 hg).1).trans hg,h3⟩⟩
theorem Bd.same {e z n c:Nat}{A:Option Addr}{xs:List Value}(h:Bd w b e z A n c xs)(hw:∀k,(Ak A n c).ownBlock=some k→w'.heap[k]? = w.heap[k]?):Bd w' b e z A n c xs:=by
 obtain⟨h1,h2⟩:=h;rcases h2 with⟨hv,h0⟩|⟨g,cap,cur,hv,hb,hg,h3⟩
 ·exact⟨h1,.inl ⟨hv,h0⟩⟩
 ·exact⟨h1,.inr ⟨g,cap,cur,hv,hb,(hw g (by rw[hv];rfl)).trans hg,h3⟩⟩
theorem Bl.win {v:Value}{l:List Int}(h:Bl w b v l)(hw:∀k,b≤k→k<w.heap.size→w'.heap[k]? = w.heap[k]?):Bl w' b v l:=by
 obtain⟨A,n,c,rfl,h1,h2⟩:=h;exact⟨A,n,c,rfl,Bd.win h1 hw,h2⟩
theorem Hn.win {A:Option Addr}{n c:Nat}{ls:List (List Int)}(h:Hn w b A n c ls)(hw:∀k,b≤k→k<w.heap.size→w'.heap[k]? = w.heap[k]?):Hn w' b A n c ls:=by
 obtain⟨xs,h1,⟨h2,h3⟩,h4⟩:=h;refine⟨xs,Bd.win h1 hw,⟨h2,fun i hi=>?_⟩,h4⟩
 obtain⟨v,e1,e2,e3⟩:=h3 i hi;exact⟨v,e1,e2.win hw,e3⟩
theorem Dp.win {v:Value}{h:Hi}(hh:Dp w b v h)(hw:∀k,b≤k→k<w.heap.size→w'.heap[k]? = w.heap[k]?):Dp w' b v h:=by
 obtain⟨A,n,c,S,sn,sc,P,pn,pc,rfl,h1,h2,h3⟩:=hh;exact⟨A,n,c,S,sn,sc,P,pn,pc,rfl,h1.win hw,h2.win hw,h3.win hw⟩
end
def H7 (w:World)(b:Nat)(L v:Value)(h:Hi):Prop:=∀w':World,(∀k,b≤k→k<w.heap.size→L.ownBlock≠some k→w'.heap[k]? = w.heap[k]?)→Dp w' b v h
theorem H7.keep {L v:Value}{h:Hi}(hh:H7 w b L v h)(hs:w.heap.size≤w'.heap.size)(hw:∀k,b≤k→k<w.heap.size→L.ownBlock≠some k→w'.heap[k]? = w.heap[k]?):H7 w' b L v h:=
 fun w'' h2=>hh w'' fun k h3 h4 h5=>(h2 k h3 (by omega) h5).trans (hw k h3 h4 h5)
theorem H7.ext {L v:Value}{h:Hi}(hh:H7 w b L v h)(he:An w w'):H7 w' b L v h:=hh.keep he.hsize fun k _ h2 _=>he.block k h2
theorem H7.lower {b b':Nat}{L v:Value}{h:Hi}(hh:H7 w b L v h)(hb:b'≤b):H7 w b' L v h:=
 fun w' h2=>(hh w' fun k h3 h4 h5=>h2 k (by omega) h4 h5).lower hb
theorem H7.of {L v:Value}{h:Hi}(hh:Dp w b v h)(hL:∀k,L.ownBlock=some k→w.heap.size≤k):H7 w b L v h:=
 fun w' h2=>hh.win fun k h3 h4=>h2 k h3 h4 fun e=>by have:=hL k e;omega
theorem H7.grown {b g:Nat}{L v:Value}{h:Hi}(hh:H7 w b L v h)(hg:w.grownBy w' (some g))(hn:g<b∨L.ownBlock=some g):H7 w' b L v h:=
 hh.keep hg.size fun k h1 h2 h3=>hg.block k h2 (fun e=>by
  injection e with e;subst e;rcases hn with hn|hn
  ·omega
  ·exact h3 hn)
theorem Cs {u:Value}{k:Nat}(h:k≠p.block):(w.setCell p u).heap[k]? = w.heap[k]?:=by
 show(w.heap.modify p.block _)[k]? = _
 rw[Array.getElem?_modify,if_neg (fun e=>h e.symm)]
theorem bG (w:World)(p:Addr)(u:Value):(w.setCell p u).heap.size=w.heap.size:=by simp[World.setCell]
theorem H7.setCell {L v:Value}{h:Hi}(hh:H7 w b L v h)(hp:p.block<b)(u:Value):H7 (w.setCell p u) b L v h:=
 hh.keep (by rw[bG];exact Nat.le_refl _) fun k h1 _ _=>Cs (by omega)
theorem H7.pat {L:Value}{O S P2 B:Option Addr}{n c sn sc pn2 pc2 t z:Nat}{mo at_:Int}{ol ol':Bool}{h:Hi}{p:List Int}(hh:H7 w b L (.agg (Ct O n c mo at_ S sn sc P2 pn2 pc2 ol)) h)
 (hp:Bl w b (.slice B t z) p) (ai:∀g,(Ak B t z).ownBlock=some g→L.ownBlock≠some g):H7 w b L (.agg (Ct O n c mo at_ S sn sc B t z ol')) ⟨h.lines,h.most,h.at_,h.scratch,p,ol'⟩:=by
 intro w' h2;obtain⟨ls,mo',vx,sl,pl,ol2⟩:=h;obtain⟨A',n',c',S',bp,bq,P',bc,pc',e,h3,h4,h5⟩:=hh w' h2;simp only[Ct,Value.agg.injEq,Array.mk.injEq,List.cons.injEq,Value.slice.injEq,Value.int.injEq,Value.bool.injEq,and_true,true_and]at e;obtain⟨⟨rfl,rfl,rfl⟩,rfl,rfl,⟨rfl,rfl,rfl⟩,_,_⟩:=e;obtain⟨A,m,d,e,ho,h6⟩:=hp;refine⟨_,_,_,_,_,_,_,_,_,rfl,h3,h4,A,m,d,e,?_,h6⟩
 injection e with e1 e2 e3;subst e1;subst e2;subst e3;exact Bd.same ho fun k hk=>h2 k (Bd.blk ho k hk).1 (Bd.blk ho k hk).2 (ai k hk)
section
variable {N:List Nat} {w w' w'':World} {base e z n c:Nat} {A:Option Addr} {xs:List Value}
theorem Bl.eqv {b:Nat}{v:Value}{l:List Int}(h:Bl w b v l)(he:Ue N w w')(hb:∀k,v.ownBlock=some k→k∉N):Bl w' b v l:=by
 obtain⟨A,n,c,rfl,h1,h2,h3⟩:=h;exact⟨A,n,c,rfl,Bd.eqv h1 he hb,h2,h3⟩
end
def Mx (w:World)(b:Nat)(N:List Nat)(A:Option Addr)(n c:Nat)(ls:List (List Int)):Prop:=
 ∃xs,Bd w b 25 1 A n c xs∧Ud w b (Ak A n c).ownBlock xs ls∧(A=none→c=0)∧(∀k,(Ak A n c).ownBlock=some k→k∉N)∧∀(i:Nat) v,xs[i]? = some v→∀k,v.ownBlock=some k→k∉N
section
variable {N:List Nat} {w w':World} {b n c:Nat} {A:Option Addr} {ls:List (List Int)}
theorem Mx.o (h:Mx w b N A n c ls):Hn w b A n c ls:=by obtain⟨xs,h1,h2,h3,_⟩:=h;exact⟨xs,h1,h2,h3⟩
theorem Ud.eqv {row:Option Nat}{xs:List Value}(h:Ud w b row xs ls)(he:Ue N w w')(hb:∀(i:Nat) v,xs[i]? = some v→∀k,v.ownBlock=some k→k∉N):Ud w' b row xs ls:=
 ⟨h.1,fun i hi=>by obtain⟨v,h1,h2,h3⟩:=h.2 i hi;exact⟨v,h1,h2.eqv he (hb i v h1),h3⟩⟩
theorem Mx.eqv (h:Mx w b N A n c ls)(he:Ue N w w'):Mx w' b N A n c ls:=by
 obtain⟨xs,h1,h2,h3,h4,h5⟩:=h;exact⟨xs,Bd.eqv h1 he h4,h2.eqv he h5,h3,h4,h5⟩
theorem Mx.fewer {M:List Nat}(h:Mx w b N A n c ls)(hm:∀k,k∈M→k∈N):Mx w b M A n c ls:=by
 obtain⟨xs,h1,h2,h3,h4,h5⟩:=h;exact⟨xs,h1,h2,h3,fun k hk hn=>h4 k hk (hm k hn),fun i v hv k hk hn=>h5 i v hv k hk (hm k hn)⟩
theorem Mx.ext (h:Mx w b N A n c ls)(he:An w w'):Mx w' b N A n c ls:=h.eqv (he.eqv N)
theorem Mx.lower {b':Nat}(h:Mx w b N A n c ls)(hb:b'≤b):Mx w b' N A n c ls:=by
 obtain⟨xs,h1,h2,h3,h4,h5⟩:=h;exact⟨xs,Bd.lower h1 hb,⟨h2.1,fun i hi=>by obtain⟨v,k1,k2,k3⟩:=h2.2 i hi;exact⟨v,k1,k2.lower hb,k3⟩⟩,h3,h4,h5⟩
theorem Hn.apart (h:Hn w b A n c ls)(hN:∀k,b≤k→k<w.heap.size→k∉N):Mx w b N A n c ls:=by
 obtain⟨xs,h1,h2,h3⟩:=h;refine⟨xs,h1,h2,h3,fun k hk=>?_,fun i v hv k hk=>?_⟩
 ·have:=Bd.blk h1 k hk
  exact hN k this.1 this.2
 ·have hi:i<ls.length:=by rw[←h2.1];exact(List.getElem?_eq_some_iff.1 hv).1
  obtain⟨v',k1,k2,_⟩:=h2.2 i hi;rw[hv]at k1;injection k1 with k1;subst k1;have:=k2.blk k hk;exact hN k this.1 this.2
end
end
