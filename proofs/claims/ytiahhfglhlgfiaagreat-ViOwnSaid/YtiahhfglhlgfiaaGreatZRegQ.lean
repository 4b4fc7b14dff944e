/-
  Part ZRegQ.
-/
import Derived.Test.YtiahhfglhlgfiaaGreatZHisC
import Derived.Deep.WholeRow
import Derived.Deep.DeepCutAuto
import Derived.Deep.CutRange
set_option maxRecDepth 100000
set_option maxHeartbeats 16000000
set_option linter.unusedVariables false
set_option linter.unusedSimpArgs false
namespace Go.Proofs.YtiahhfglhlgfiaaGreat
open Go.RowKit
open _root_.Array renaming getElem?_setIfInBounds_ne→D1
open Value renaming int→Aq,slice→Aj
open _root_.Nat renaming le_refl→Ai,le_trans→Ap,lt_or_ge→At
open _root_.List renaming getElem?_append_left→Bu,getElem?_append_right→Ca
section
variable {w:World}{v:Value}{now p:List Int}{N A T0 B:Option Addr}{h:Hi}{q y base e z n c t0 z0:Nat}{cs:Array Value}{rs:Nat→List Int}{k:Int}{xs:List Value}{ls:List (List Int)}{older:Bool}
theorem Ay.setCell_ne (h:Ay w base e z A n c xs){p:Addr}(hp:(Aj A n c).ownBlock≠some p.block)(u:Value):Ay (w.setCell p u) base e z A n c xs:=by
 obtain⟨h1,h2⟩:=h;refine⟨h1,?_⟩
 rcases h2 with h2|⟨g',cap,cur,hv,hb,hg',r⟩
 ·exact .inl h2
 ·refine .inr ⟨g',cap,cur,hv,hb,?_,r⟩
  rw[hv]at hp;have hne:p.block≠g':=fun e=>hp (by rw[e];rfl)
  unfold World.setCell;rw[Array.getElem?_modify,if_neg hne];exact hg'
theorem Bg.setCell_ne {b:Nat}{l:List Int}(h:Bg w b v l){p:Addr}(hp:v.ownBlock≠some p.block)(u:Value):Bg (w.setCell p u) b v l:=by
 obtain⟨A,n,c,rfl,h1,h2,h3⟩:=h;exact⟨A,n,c,rfl,Ay.setCell_ne h1 hp u,h2,h3⟩
theorem Bg.kept {w w':World}{b:Nat}{l:List Int}(h:Bg w b v l){row:Option Nat}(hg:w.grownBy w' row)(hne:∀g,v.ownBlock=some g→row≠some g):Bg w' b v l:=by
 obtain⟨A,n,c,rfl,h1,h2,h3⟩:=h;refine⟨A,n,c,rfl,Ay.kept h1 hg ?_,h2,h3⟩
 cases ho:(Aj A n c).ownBlock with
 |none=>exact .inl rfl
 |some g=>exact .inr (fun e=>hne g ho e.symm)
def Qs (w:World)(b g:Nat)(ds:Array Value)(rs:Nat→List Int):Prop:=E8 w b ds rs∧An w g 40 ds∧∀j k,M7 ds j=some k→k≠g
def kG (rs:Nat→List Int)(i:Nat)(l:List Int):Nat→List Int:=fun j=>if j=i then l else rs j
section
variable {w w':World} {b g:Nat} {ds:Array Value} {rs:Nat→List Int}
theorem Qs.ext (h:Qs w b g ds rs)(he:Al w w'):Qs w' b g ds rs:=⟨h.1.ext he,An.ext h.2.1 he,h.2.2⟩
theorem Na {ds:Array Value}{j:Nat}{v:Value}(h:ds[j]? = some v):M7 ds j=v.ownBlock:=by unfold M7;rw[h];rfl
theorem Qs.store (h:Qs w b g ds rs){i:Nat}{v:Value}{l:List Int}(hv:Bg w b v l)(hne:v.ownBlock≠some g)(hi:i<27):Qs (w.setCell ⟨g,i,none⟩ v) b g (ds.setIfInBounds i v) (kG rs i l):=by
 refine⟨⟨by simpa using h.1.1,fun j hj=>?_⟩,h.2.1.set_ i v,fun j k hk=>?_⟩
 ·unfold kG
  by_cases hji:j=i
  ·exact I64
  ·obtain⟨u,h1,h2⟩:=h.1.2 j hj
   exact⟨u,by rw[D1 (fun e=>hji e.symm)];exact h1,by rw[if_neg hji];exact h2.setCell_ne (fun e=>h.2.2 j g (by rw[Na h1];exact e) rfl) _⟩
 ·exact I50
theorem Qs.put (h:Qs w b g ds rs)(ha:T8 ds 27){i:Nat}{v:Value}{l:List Int}(hg:w.grownBy w' (M7 ds i))(hv:Bg w' b v l)(hne:v.ownBlock≠some g)(hi:i<27):Qs (w'.setCell ⟨g,i,none⟩ v) b g (ds.setIfInBounds i v) (kG rs i l):=by
 have hB:An w' g 40 ds:=h.2.1.grown hg (fun e=>h.2.2 i g e.symm rfl)
 refine⟨⟨by simpa using h.1.1,fun j hj=>?_⟩,hB.set_ i v,fun j k hk=>?_⟩
 ·unfold kG
  by_cases hji:j=i
  ·exact I64
  ·obtain⟨u,h1,h2⟩:=h.1.2 j hj
   have hk:=h2.kept hg (fun k hk hi'=>ha j i k hj hi hji (by rw[Na h1];exact hk) hi')
   exact⟨u,by rw[D1 (fun e=>hji e.symm)];exact h1,by rw[if_neg hji];exact hk.setCell_ne (fun e=>h.2.2 j g (by rw[Na h1];exact e) rfl) _⟩
 ·exact I50
theorem Qs.blk (h:Qs w b g ds rs){j k:Nat}(hj:j<27)(hk:M7 ds j=some k):b≤k∧k<w.heap.size:=by
 obtain⟨u,h1,h2⟩:=h.1.2 j hj;rw[Na h1]at hk;exact h2.blk k hk
end
theorem Ay.nocap (h:Ay w base e z A n c xs):A=none→c=0:=by
 exact I80
def Nx (rs:Nat→List Int)(i:Nat)(m:Bool)(text:List Int):Nat→List Int:=
 kG (kG rs i (if m=true then rs i++text else text)) 0 (if m=true then rs i++text else text)
def kK (w':World)(b:Nat)(ds:Array Value)(rs:Nat→List Int):Prop:=
 E8 w' b ds rs∧∃g0,(∀j k,1≤j→j<27→M7 ds j=some k→k<g0)∧∀k,M7 ds 0=some k→g0≤k
theorem uO {n c:Nat}{text:List Int}{i:Nat}{m:Bool}
 (hr:Ka w cs rs) (ht:Bi w A n c text) (hA:A=none→c=0) (h:F6 k=some (i,m)) (hb:¬G8 rs i m text):
 Calls Tryz.prog 145 #[.agg cs,.int .i64 k,.slice A n c] w fun e w'=>∃ds,e=.returned (.tuple #[.agg ds,.int .i64 0])∧kK w' w.heap.size ds (Nx rs i m text)∧Al w w':=by
 obtain⟨i0,tS,hz0,hz1,hz2⟩:=info_parts Bz;have HN:=fun w=>A4 (Rf w h)
 have hi:=Tt h;obtain⟨v,hv,B,q,d,rfl,hI,hB,hq⟩:=hr.2 i hi;have hnl:=ht.len;have hql:=hI.len;unfold G8 at hb;rw[hnl,hql]at hb;obtain⟨H1,H2,H3⟩:=P7 w cs 40;have h1:=A4 H1;have h2:=A4 H2;have h3:=A4 H3;have hn2:n≤200:=by omega
 have hx:m=true→q+n≤200:=fun e=>by
  rcases Nat.lt_or_ge 200 (q+n)with h|h
  ·exact absurd (.inr ⟨e,h⟩) hb
  ·exact h
 have hqm:q≤9223372036854775807:=by omega
 have HC:=A4 (jF (hr.ext H3));have HT:=A4 (ht.ext H3);have HS:=A4 hr.1;have HL:=A4 hql;clear h H1 H2 H3 hr ht hnl hql hI hb hB hq;cases m with
 |true=>
  have hx2:q+n≤200:=hx rfl;have hx3:(q:Int)≤200-n:=by omega
  clear hx;go_enter Tryz.func145,Tryz.ntmps145
  go_wp2_with fail
  refine((HN _).out).mono ?_
  rintro e w1 ⟨rfl,rfl⟩;clear HN;go_wp2_with (refine wpList_load_row rfl 40 (.tmp 3) rfl w.heap.size rfl 40 cs (0,0) _ h1.out Tryz.underlying40 rfl (Cu HS.out) ?_)
  refine HC.out.mono ?_
  rintro e w1 ⟨ds,rfl,hO,hap,he1⟩;have he2:=h3.out.trans he1;have hbz:((w.alloc (.cells cs 40)).alloc (.cells Bw 40)).heap.size=w.heap.size+2:=by simp
  rw[hbz]at hO;have hg1:w.heap.size+2≤w1.heap.size:=by have:=he1.hsize;rw[hbz]at this;exact this
  have B6:=A4 ((An.ext h2.out he1).ext (Al.alloc w1 (.cells Bw 40)));have B11:=A4 (An.new w1 40 Bw);have hds:=A4 hO.1;have hone:=A4 hO.regs.one;have hns:Bw.size=ds.size:=by rw[hds.out];rfl
  have HI:Hid (Qs ((w1.alloc (.cells Bw 40)).setRow w1.heap.size ds) (w.heap.size+2) w1.heap.size ds rs):=A4 (by
   rw[World.setRow_alloc_new];refine⟨hO.ext (Al.alloc _ _),An.new _ _ _,fun j k hk=>?_⟩
   by_cases hj:j<27
   ·exact I102
   ·unfold M7 at hk
    rw[Array.getElem?_eq_none (by rw[hds.out];omega)]at hk
    cases hk)
  have HX:Hid (Al w ((w1.alloc (.cells Bw 40)).setRow w1.heap.size ds)):=A4 ((he2.to_alloc _).setRow (by omega) _)
  have HT2:Hid (Bi ((w1.alloc (.cells Bw 40)).setRow w1.heap.size ds) A n c text):=A4 ((HT.out.ext he1).ext (by
   rw[World.setRow_alloc_new];exact Al.alloc _ _))
  have HB:Hid (An ((w1.alloc (.cells Bw 40)).setRow w1.heap.size ds) (w.heap.size+1) 40 Bw):=A4 (B6.out.setRow_other ds (by omega))
  have Hap:=A4 hap;clear HC h1 h2 h3 he1 he2 hO hap hbz HT HS hv B6;go_upto_if 40 with(refine wpList_store_row rfl 40 (.tmp 11) (.tmp 39) rfl w1.heap.size ds rfl rfl 40 Bw B11.out (Cu hds.out) hns hone.out ?_)
  clear B11 hone hns;have hsz:w1.heap.size<((w1.alloc (.cells Bw 40)).setRow w1.heap.size ds).heap.size:=by simp
  change Code.wp _ _ _ _ ((w1.alloc (.cells Bw 40)).setRow w1.heap.size ds);generalize (w1.alloc (.cells Bw 40)).setRow w1.heap.size ds=W at*;generalize w1.heap.size=g at*;obtain⟨v2,hv2,B2,q2,d2,rfl,hO2,hB2,hq2⟩:=HI.out.1.2 i hi;obtain rfl:q2=q:=by have:=hO2.ints.len;rw[HL.out]at this;omega
  have c2:W.cell? ⟨g,i,none⟩=some (.slice B2 q2 d2):=by rw[HI.out.2.1.cell i,hv2]
  have hx:=HX.out;have hb2:=Na hv2;go_wp2_with (at_builtin;refine Fn rfl (.tmp 44) (.tmp 45) 27 rfl w (w.heap.size+2) 3 i0 (.int .i64 0) 1 8 Tryz.underlying27 tS hz0 hz1 hz2 rfl (by decide) B2 q2 d2 ((rs i).map (Aq .i64)) rfl hO2 A n c (text.map (Aq .i64)) rfl HT2.out HT2.out.one ?_ ?_ hx (by omega) (by omega) ?_)
  ·unfold maxLen;omega
  ·omega
  ·intro A2 e2 w3 k1 k2 k3 k4
   have hv3:Bg w3 (w.heap.size+2) (.slice A2 (q2+n) e2) (rs i++text):=⟨A2,q2+n,e2,rfl,by have:=k1;rw[←List.map_append]at this;exact this,Ay.nocap k1,by omega⟩
   have hne:(Aj A2 (q2+n) e2).ownBlock≠some g:=by
    intro e;rcases k3 with k3|k3
    ·rw[k3]at e;exact HI.out.2.2 i g (by rw[hb2];exact e) rfl
    ·rw[k3]at e;injection e with e;omega
   have HI2:=A4 (HI.out.put Hap.out (i:=i) (by rw[hb2];exact k2) hv3 hne hi)
   have HX2:=A4 (k4.setCell (p:=⟨g,i,none⟩) (show w.heap.size≤g by omega) (.slice A2 (q2+n) e2))
   have HB2:=A4 (Bh (HB.out.grown k2 (fun e=>by have:=(Ay.blk hO2 _ e.symm).1;omega)) (show g≠w.heap.size+1 by omega) i (.slice A2 (q2+n) e2))
   have hBg:An w3 g 40 ds:=HI.out.2.1.grown k2 (fun e=>HI.out.2.2 i g (by rw[hb2];exact e.symm) rfl)
   have c3:w3.cell? ⟨g,i,none⟩=some (.slice B2 q2 d2):=by rw[hBg.cell i,hv2]
   have f3:=hBg.frozen i;have hsz2:g<w3.heap.size:=hBg.lt;clear k1 k2 k3 k4 hv3 hne hBg HI HX HB hO2 hB2 hq2 hv2 c2 hx hb2 HT2 Hap;go_upto_region 10 with fail
   clear c3 f3;have hsz3:g<(w3.setCell ⟨g,i,none⟩ (.slice A2 (q2+n) e2)).heap.size:=by simpa using hsz2
   generalize w3.setCell ⟨g,i,none⟩ (.slice A2 (q2+n) e2)=W2 at*;generalize ds.setIfInBounds i (.slice A2 (q2+n) e2)=ds2 at*;obtain⟨v3,hv3,B3,q3,d3,rfl,hO3,hB3,hq3⟩:=HI2.out.1.2 i hi;have c3:W2.cell? ⟨g,i,none⟩=some (.slice B3 q3 d3):=by rw[HI2.out.2.1.cell i,hv3]
   have HC2:=A4 (Cy hO3.ints hB3 hq3);have hrs:kG rs i (rs i++text) i=(rs i++text):=by unfold kG;rw[if_pos rfl]
   rw[hrs]at HC2;have hdz:ds2.size=27:=HI2.out.1.1;clear hv3 hO3 hB3 hrs;go_wp2_with fail
   refine HC2.out.mono ?_
   rintro e w5 ⟨B4,d4,rfl,hO4,hB4,he5⟩;have HI5:=A4 (HI2.out.ext he5);have HX5:=A4 (HX2.out.trans he5);have HB5:=A4 (An.ext HB2.out he5);have hz4:Bg w5 (w.heap.size+2) (.slice B4 q3 d4) (rs i++text):=⟨B4,q3,d4,rfl,Ay.lower hO4 (by omega),hB4,hq3⟩
   have hne4:(Aj B4 q3 d4).ownBlock≠some g:=fun e=>by have:=(Ay.blk hO4 g e).1;omega
   have HI6:=A4 (HI5.out.store (i:=0) hz4 hne4 (by omega))
   have HP:Hid (kK (w5.setCell ⟨g,0,none⟩ (.slice B4 q3 d4)) (w.heap.size+2) (ds2.setIfInBounds 0 (.slice B4 q3 d4)) (Nx rs i true text)):=A4 (by
    refine⟨HI6.out.1,W2.heap.size,fun j k h1 h2 hk=>?_,fun k hk=>?_⟩
    ·exact I123
    ·rw[Gj (by omega)]at hk
     exact(Ay.blk hO4 k hk).1)
   have HX6:=A4 (HX5.out.setCell (p:=⟨g,0,none⟩) (show w.heap.size≤g by omega) (.slice B4 q3 d4))
   have HB6:=A4 (Bh HB5.out (show g≠w.heap.size+1 by omega) 0 (.slice B4 q3 d4))
   obtain⟨v0,hv0,_⟩:=HI5.out.1.2 0 (by omega)
   have c0:w5.cell? ⟨g,0,none⟩=some v0:=by rw[HI5.out.2.1.cell 0,hv0]
   have f0:=HI5.out.2.1.frozen 0;clear HC2 hO4 hB4 he5 hz4 hne4 HI2 HX2 HB2 HI5 HX5 HB5 hv0 c3;go_upto_region 11 with fail
   clear c0 f0;generalize w5.setCell ⟨g,0,none⟩ (.slice B4 q3 d4)=W6 at*;have hd3:(ds2.setIfInBounds 0 (.slice B4 q3 d4)).size=27:=HI6.out.1.1;have hone3:(ds2.setIfInBounds 0 (.slice B4 q3 d4)).all (·.oneCell')=true:=HI6.out.1.regs.one;generalize ds2.setIfInBounds 0 (.slice B4 q3 d4)=ds3 at*;have hns3:Bw.size=ds3.size:=by rw[hd3];rfl
   have HG:=A4 HI6.out.2.1;have hres:=HB6.out.setRow ds3;have HE:Hid (kK (W6.setRow (w.heap.size+1) ds3) w.heap.size ds3 (Nx rs i true text)):=A4 ⟨(HP.out.1.setRow (show w.heap.size+1<w.heap.size+2 by omega) ds3).lower (by omega),HP.out.2⟩
   exact I10
 |false=>
  clear hx;go_enter Tryz.func145,Tryz.ntmps145
  go_wp2_with fail
  refine((HN _).out).mono ?_
  rintro e w1 ⟨rfl,rfl⟩;clear HN;go_wp2_with (refine wpList_load_row rfl 40 (.tmp 3) rfl w.heap.size rfl 40 cs (0,0) _ h1.out Tryz.underlying40 rfl (Cu HS.out) ?_)
  refine HC.out.mono ?_
  rintro e w1 ⟨ds,rfl,hO,hap,he1⟩;have he2:=h3.out.trans he1;have hbz:((w.alloc (.cells cs 40)).alloc (.cells Bw 40)).heap.size=w.heap.size+2:=by simp
  rw[hbz]at hO;have hg1:w.heap.size+2≤w1.heap.size:=by have:=he1.hsize;rw[hbz]at this;exact this
  have B6:=A4 ((An.ext h2.out he1).ext (Al.alloc w1 (.cells Bw 40)));have B11:=A4 (An.new w1 40 Bw);have hds:=A4 hO.1;have hone:=A4 hO.regs.one;have hns:Bw.size=ds.size:=by rw[hds.out];rfl
  have HI:Hid (Qs ((w1.alloc (.cells Bw 40)).setRow w1.heap.size ds) (w.heap.size+2) w1.heap.size ds rs):=A4 (by
   rw[World.setRow_alloc_new];refine⟨hO.ext (Al.alloc _ _),An.new _ _ _,fun j k hk=>?_⟩
   by_cases hj:j<27
   ·exact I102
   ·unfold M7 at hk
    rw[Array.getElem?_eq_none (by rw[hds.out];omega)]at hk
    cases hk)
  have HX:Hid (Al w ((w1.alloc (.cells Bw 40)).setRow w1.heap.size ds)):=A4 ((he2.to_alloc _).setRow (by omega) _)
  have HT2:Hid (Bi ((w1.alloc (.cells Bw 40)).setRow w1.heap.size ds) A n c text):=A4 ((HT.out.ext he1).ext (by
   rw[World.setRow_alloc_new];exact Al.alloc _ _))
  have HB:Hid (An ((w1.alloc (.cells Bw 40)).setRow w1.heap.size ds) (w.heap.size+1) 40 Bw):=A4 (B6.out.setRow_other ds (by omega))
  have Hap:=A4 hap;clear HC h1 h2 h3 he1 he2 hO hap hbz HT HS hv B6;go_upto_if 40 with(refine wpList_store_row rfl 40 (.tmp 11) (.tmp 39) rfl w1.heap.size ds rfl rfl 40 Bw B11.out (Cu hds.out) hns hone.out ?_)
  clear B11 hone hns;have hsz:w1.heap.size<((w1.alloc (.cells Bw 40)).setRow w1.heap.size ds).heap.size:=by simp
  change Code.wp _ _ _ _ ((w1.alloc (.cells Bw 40)).setRow w1.heap.size ds);generalize (w1.alloc (.cells Bw 40)).setRow w1.heap.size ds=W at*;generalize w1.heap.size=g at*;have HCT:=A4 (Cy HT2.out hA (by omega))
  obtain⟨v2,hv2,_⟩:=HI.out.1.2 i hi;go_wp2_with fail
  refine HCT.out.mono ?_
  rintro e w3 ⟨A2,e2,rfl,k1,k2,k3⟩;have hv3:Bg w3 (w.heap.size+2) (.slice A2 n e2) text:=⟨A2,n,e2,rfl,Ay.lower k1 (by omega),k2,by omega⟩
  have hne:(Aj A2 n e2).ownBlock≠some g:=fun e=>by have:=(Ay.blk k1 g e).1;omega
  have HI2:=A4 ((HI.out.ext k3).store (i:=i) hv3 hne hi);have HX2:=A4 ((HX.out.trans k3).setCell (p:=⟨g,i,none⟩) (show w.heap.size≤g by omega) (.slice A2 n e2))
  have HB2:=A4 (Bh (An.ext HB.out k3) (show g≠w.heap.size+1 by omega) i (.slice A2 n e2))
  have hBg:An w3 g 40 ds:=An.ext HI.out.2.1 k3;have c3:w3.cell? ⟨g,i,none⟩=some v2:=by rw[hBg.cell i,hv2]
  have f3:=hBg.frozen i;have hsz2:g<w3.heap.size:=hBg.lt;clear k1 k2 k3 hv3 hne hBg HI HX HB hv2 HT2 HCT Hap;go_upto_region 10 with fail
  clear c3 f3;have hsz3:g<(w3.setCell ⟨g,i,none⟩ (.slice A2 n e2)).heap.size:=by simpa using hsz2
  generalize w3.setCell ⟨g,i,none⟩ (.slice A2 n e2)=W2 at*;generalize ds.setIfInBounds i (.slice A2 n e2)=ds2 at*;obtain⟨v3,hv3,B3,q3,d3,rfl,hO3,hB3,hq3⟩:=HI2.out.1.2 i hi;have c3:W2.cell? ⟨g,i,none⟩=some (.slice B3 q3 d3):=by rw[HI2.out.2.1.cell i,hv3]
  have HC2:=A4 (Cy hO3.ints hB3 hq3);have hrs:kG rs i text i=text:=by unfold kG;rw[if_pos rfl]
  rw[hrs]at HC2;have hdz:ds2.size=27:=HI2.out.1.1;clear hv3 hO3 hB3 hrs;go_wp2_with fail
  refine HC2.out.mono ?_
  rintro e w5 ⟨B4,d4,rfl,hO4,hB4,he5⟩;have HI5:=A4 (HI2.out.ext he5);have HX5:=A4 (HX2.out.trans he5);have HB5:=A4 (An.ext HB2.out he5);have hz4:Bg w5 (w.heap.size+2) (.slice B4 q3 d4) text:=⟨B4,q3,d4,rfl,Ay.lower hO4 (by omega),hB4,hq3⟩
  have hne4:(Aj B4 q3 d4).ownBlock≠some g:=fun e=>by have:=(Ay.blk hO4 g e).1;omega
  have HI6:=A4 (HI5.out.store (i:=0) hz4 hne4 (by omega))
  have HP:Hid (kK (w5.setCell ⟨g,0,none⟩ (.slice B4 q3 d4)) (w.heap.size+2) (ds2.setIfInBounds 0 (.slice B4 q3 d4)) (Nx rs i false text)):=A4 (by
   refine⟨HI6.out.1,W2.heap.size,fun j k h1 h2 hk=>?_,fun k hk=>?_⟩
   ·exact I123
   ·rw[Gj (by omega)]at hk
    exact(Ay.blk hO4 k hk).1)
  have HX6:=A4 (HX5.out.setCell (p:=⟨g,0,none⟩) (show w.heap.size≤g by omega) (.slice B4 q3 d4))
  have HB6:=A4 (Bh HB5.out (show g≠w.heap.size+1 by omega) 0 (.slice B4 q3 d4))
  obtain⟨v0,hv0,_⟩:=HI5.out.1.2 0 (by omega)
  have c0:w5.cell? ⟨g,0,none⟩=some v0:=by rw[HI5.out.2.1.cell 0,hv0]
  have f0:=HI5.out.2.1.frozen 0;clear HC2 hO4 hB4 he5 hz4 hne4 HI2 HX2 HB2 HI5 HX5 HB5 hv0 c3;go_upto_region 11 with fail
  clear c0 f0;generalize w5.setCell ⟨g,0,none⟩ (.slice B4 q3 d4)=W6 at*;have hd3:(ds2.setIfInBounds 0 (.slice B4 q3 d4)).size=27:=HI6.out.1.1;have hone3:(ds2.setIfInBounds 0 (.slice B4 q3 d4)).all (·.oneCell')=true:=HI6.out.1.regs.one;generalize ds2.setIfInBounds 0 (.slice B4 q3 d4)=ds3 at*;have hns3:Bw.size=ds3.size:=by rw[hd3];rfl
  have HG:=A4 HI6.out.2.1;have hres:=HB6.out.setRow ds3;have HE:Hid (kK (W6.setRow (w.heap.size+1) ds3) w.heap.size ds3 (Nx rs i false text)):=A4 ⟨(HP.out.1.setRow (show w.heap.size+1<w.heap.size+2 by omega) ds3).lower (by omega),HP.out.2⟩
  exact I10
def toS (h:Hi)(now:List Int):List Int:=if h.at_=(h.lines.length:Int)then now else h.scratch
def toH (h:Hi)(now:List Int)(k:Nat):Hi:=⟨h.lines,h.most,k,toS h now,h.pattern,h.older⟩
def toL (h:Hi)(now:List Int)(k:Nat):List Int:=if k=h.lines.length then toS h now else gL h.lines k
theorem fD {w w':World}{g:Nat}{a b c d e f:Value}(he:Al w w')(h:w.cell? ⟨g,0,none⟩=some a∧w.cell? ⟨g,1,none⟩=some b∧w.cell? ⟨g,2,none⟩=some c∧w.cell? ⟨g,3,none⟩=some d∧w.cell? ⟨g,4,none⟩=some e∧w.cell? ⟨g,5,none⟩=some f):
 w'.cell? ⟨g,0,none⟩=some a∧w'.cell? ⟨g,1,none⟩=some b∧w'.cell? ⟨g,2,none⟩=some c∧w'.cell? ⟨g,3,none⟩=some d∧w'.cell? ⟨g,4,none⟩=some e∧w'.cell? ⟨g,5,none⟩=some f:=
 ⟨he.cell h.1,he.cell h.2.1,he.cell h.2.2.1,he.cell h.2.2.2.1,he.cell h.2.2.2.2.1,he.cell h.2.2.2.2.2⟩
theorem Du {g t:Nat}(h:An w g t cs):w.frozen? ⟨g,0,none⟩=false∧w.frozen? ⟨g,1,none⟩=false∧w.frozen? ⟨g,2,none⟩=false∧w.frozen? ⟨g,3,none⟩=false∧w.frozen? ⟨g,4,none⟩=false∧w.frozen? ⟨g,5,none⟩=false:=
 ⟨h.frozen 0,h.frozen 1,h.frozen 2,h.frozen 3,h.frozen 4,h.frozen 5⟩
def Dj:Array Value:=#[.slice none 0 0,.int .i64 0,.int .i64 0,.slice none 0 0,.slice none 0 0,.bool false]
def Pg (w:World)(g:Nat)(a b c d e f:Value):World:=(((((w.setCell ⟨g,0,none⟩ a).setCell ⟨g,1,none⟩ b).setCell ⟨g,2,none⟩ c).setCell ⟨g,3,none⟩ d).setCell ⟨g,4,none⟩ e).setCell ⟨g,5,none⟩ f
theorem En {g t:Nat}{a' b' c' d' e' f':Value}(h:An w g t #[a',b',c',d',e',f'])(a b c d e f:Value):An (Pg w g a b c d e f) g t #[a,b,c,d,e,f]:=
 (((((h.set_ 0 a).set_ 1 b).set_ 2 c).set_ 3 d).set_ 4 e).set_ 5 f
theorem Em {w0 w:World}{g:Nat}(h:Al w0 w)(hg:w0.heap.size≤g)(a b c d e f:Value):Al w0 (Pg w g a b c d e f):=
 (((((h.setCell (p:=⟨g,0,none⟩) hg a).setCell (p:=⟨g,1,none⟩) hg b).setCell (p:=⟨g,2,none⟩) hg c).setCell (p:=⟨g,3,none⟩) hg d).setCell (p:=⟨g,4,none⟩) hg e).setCell (p:=⟨g,5,none⟩) hg f
theorem Hh {g base e' z n cc:Nat}(h:Ay w base e' z A n cc xs)(hg:g<base)(a b c d e f:Value):Ay (Pg w g a b c d e f) base e' z A n cc xs:=
 (((((h.setCell (p:=⟨g,0,none⟩) hg a).setCell (p:=⟨g,1,none⟩) hg b).setCell (p:=⟨g,2,none⟩) hg c).setCell (p:=⟨g,3,none⟩) hg d).setCell (p:=⟨g,4,none⟩) hg e).setCell (p:=⟨g,5,none⟩) hg f
theorem Gk {g base:Nat}(hh:D3 w base v h)(hg:g<base)(a b c d e f:Value):D3 (Pg w g a b c d e f) base v h:=
 (((((hh.setCell (p:=⟨g,0,none⟩) hg a).setCell (p:=⟨g,1,none⟩) hg b).setCell (p:=⟨g,2,none⟩) hg c).setCell (p:=⟨g,3,none⟩) hg d).setCell (p:=⟨g,4,none⟩) hg e).setCell (p:=⟨g,5,none⟩) hg f
theorem Ld {g base:Nat}{L v:Value}(hh:Fq w base L v h)(hg:g<base)(a b c d e f:Value):Fq (Pg w g a b c d e f) base L v h:=
 (((((hh.setCell (p:=⟨g,0,none⟩) hg a).setCell (p:=⟨g,1,none⟩) hg b).setCell (p:=⟨g,2,none⟩) hg c).setCell (p:=⟨g,3,none⟩) hg d).setCell (p:=⟨g,4,none⟩) hg e).setCell (p:=⟨g,5,none⟩) hg f
theorem Dm {P:Program}{fn:Func}{p q r:Tmp}{ty:TypeId}(h:fn.results=#[.cell p ty,.tmp q,.tmp r])(tmps:Array Value)(w:World)(g:Nat)(t:TypeId)(cs:Array Value)(fr:Nat×Nat)(d:TypeDesc)(v u:Value)
 (hp:tmps.getD p undef=.pointer (some ⟨g,0,none⟩)) (hq:tmps.getD q undef=v) (hr:tmps.getD r undef=u) (hg:w.heap[g]? = some (.cells cs t fr))
 (hu:P.underlying ty=some d) (hd:(match d with|.struct _|.array _ _=>true|_=>false)=true) (hi:(P.info? ty).map (·.size)=some cs.size):
 (results fn tmps).run P w=.ok (.tuple #[.agg cs,v,u]) w:=by
 have hp':tmps[p]?.getD undef=.pointer (some ⟨g,0,none⟩):=by simpa using hp
 have hq':tmps[q]?.getD undef=v:=by simpa using hq
 have hr':tmps[r]?.getD undef=u:=by simpa using hr
 simp[results,h,hp',hq',hr',asAddr,run_loadVar_row w g t ty cs fr d hg hu hd hi]
theorem Xn {k:Nat}(hv:L8 w v h)(hsm:h.lines.length≤1000)(hnow:Bi w N q y now)(hN:N=none→y=0)(hq:q*8≤140737488355328)(hk:k≤h.lines.length):
 Calls Tryz.prog 80 #[v,.slice N q y,.int .i64 k] w fun e w'=>∃u L m z,e=.returned (.tuple #[u,.slice L m z,.int .i64 0])∧D3 w' w.heap.size u (toH h now k)∧Av w' w.heap.size L m z (toL h now k)∧(L=none→z=0)∧Al w w'∧Fq w' w.heap.size (.slice L m z) u (toH h now k):=by
 have HV:=A4 hv;obtain⟨ls,mo,at_,sl,pl,ol⟩:=h;obtain⟨A,n,c,S,sn,sc,P,pn,pc,rfl,hL,hA,hS,hP⟩:=hv;have hZ:Dj=#[.slice none 0 0,.int .i64 0,.int .i64 0,.slice none 0 0,.slice none 0 0,.bool false]:=rfl;simp only at hL hS hP hsm hk;have hn:=hL.len;have HL:=A4 hL;have HNow:=A4 hnow;have hn1:n≤1000:=by omega
 rw[hn]at hk;have HN:=A4 hn;have hb0:=A4 ((An.new w 54 (Ce A n c mo at_ S sn sc P pn pc ol)).ext (Al.alloc _ (.cells Dj 54)));have hb1:Hid (An ((w.alloc (.cells (Ce A n c mo at_ S sn sc P pn pc ol) 54)).alloc (.cells Dj 54)) (w.heap.size+1) 54 Dj):=A4 (by
  have:=An.new (w.alloc (.cells (Ce A n c mo at_ S sn sc P pn pc ol) 54)) 54 Dj
  rwa[World.size_alloc]at this)
 have hx0:Hid (Al w ((w.alloc (.cells (Ce A n c mo at_ S sn sc P pn pc ol) 54)).alloc (.cells Dj 54))):=A4 ((Al.alloc _ _).to_alloc _);have HC:=A4 (Ug (HV.out.ext hx0.out) (by simp only;omega))
 have hsz0:Hid (((w.alloc (.cells (Ce A n c mo at_ S sn sc P pn pc ol) 54)).alloc (.cells Dj 54)).heap.size=w.heap.size+2):=A4 (by simp)
 clear hL hS hP hn hnow hsm;unfold Ce Dj at*;clear hZ;go_enter Tryz.func80,Tryz.ntmps80
 go_wp2_with fail
 refine HC.out.mono ?_
 rintro e w1 ⟨u,rfl,hO,he1⟩;rw[hsz0.out]at hO;obtain⟨O,n',d,S',sn',sc',P',pn',pc',rfl,hOL,hOS,hOP⟩:=hO;unfold Ce;simp only at hOL hOS hOP;obtain rfl:n'=n:=by rw[←hOL.lns.len];exact HN.out
 have hsz1:w.heap.size+2≤w1.heap.size:=by have:=he1.hsize;rw[hsz0.out]at this;exact this
 have HX1:=A4 (hx0.out.trans he1);have HB3:=A4 (An.ext hb0.out he1);have HB6:=A4 (An.ext hb1.out he1);have HOL:=A4 hOL;have HOS:=A4 hOS;have HOP:=A4 hOP;clear HC hOL hOS hOP he1 hb0 hb1 hx0 hsz0;have HB9:=A4 (An.new w1 54 #[.slice O n' d,.int .i64 mo,.int .i64 at_,.slice S' sn' sc',.slice P' pn' pc',.bool ol]);have HX2:=A4 (Al.alloc w1 (.cells #[.slice O n' d,.int .i64 mo,.int .i64 at_,.slice S' sn' sc',.slice P' pn' pc',.bool ol] 54));go_upto_region 2 with fail
 change Code.wp _ _ _ _ (w1.alloc (.cells #[.slice O n' d,.int .i64 mo,.int .i64 at_,.slice S' sn' sc',.slice P' pn' pc',.bool ol] 54));have hg9:w1.heap.size<(w1.alloc (.cells #[.slice O n' d,.int .i64 mo,.int .i64 at_,.slice S' sn' sc',.slice P' pn' pc',.bool ol] 54)).heap.size:=by simp
 generalize w1.alloc (.cells #[.slice O n' d,.int .i64 mo,.int .i64 at_,.slice S' sn' sc',.slice P' pn' pc',.bool ol] 54)=W at*;generalize hg:w1.heap.size=g9 at*;obtain⟨k0,_,k2,_⟩:=Cg (An.ext HB3.out HX2.out);have f93:=HB9.out.frozen 3;obtain⟨_,_,_,c93,_⟩:=Cg HB9.out;go_upto_if 17 with fail
 go_cut [] (fun wx=>∃(S2:Option Addr) (s2 z2:Nat),Hid (An wx g9 54 #[.slice O n' d,.int .i64 mo,.int .i64 at_,.slice S2 s2 z2,.slice P' pn' pc',.bool ol])∧Hid (Bg wx (w.heap.size+2) (.slice S2 s2 z2) (toS ⟨ls,mo,at_,sl,pl,ol⟩ now))∧Hid ((Aj S2 s2 z2).ownBlock≠some g9)∧Hid (Al w1 wx))
 case first=>
  by_cases hat:at_=n'
  ·have HNow2:=A4 (HNow.out.ext (HX1.out.trans HX2.out))
   have HC:=A4 (Cy HNow2.out hN hq);have hts:Hid (toS ⟨ls,mo,at_,sl,pl,ol⟩ now=now):=A4 (by unfold toS;simp only;rw[HN.out,if_pos hat])
   subst hat;go_wp2_with fail
   refine HC.out.mono ?_
   rintro e w3 ⟨B,z,rfl,hOB,hB0,he3⟩;have hb9:=An.ext HB9.out he3;have c3:=hb9.cell 3;simp only[List.getElem?_toArray,List.getElem?_cons_zero,List.getElem?_cons_succ]at c3;have f3:=hb9.frozen 3;have hne:(Aj B q z).ownBlock≠some g9:=fun e=>by have:=(Ay.blk hOB _ e).1;omega
   have R1:=A4 (hb9.set_ 3 (.slice B q z));have R2:Hid (Bg (w3.setCell ⟨g9,3,none⟩ (.slice B q z)) (w.heap.size+2) (.slice B q z) (toS ⟨ls,mo,(n':Int),sl,pl,ol⟩ now)):=A4 (by
    rw[hts.out];exact Bg.setCell_ne (p:=⟨g9,3,none⟩) (show Bg w3 (w.heap.size+2) (.slice B q z) now from⟨B,q,z,rfl,Ay.lower hOB (by omega),hB0,hq⟩) hne _)
   have R3:=A4 hne;have R4:=A4 ((HX2.out.trans he3).setCell (p:=⟨g9,3,none⟩) (show w1.heap.size≤g9 by omega) (.slice B q z))
   clear HC hOB hB0 he3 hb9 hne k0 k2 f93 c93 hts;go_wp2_with fail
   go_meet
   exact⟨B,q,z,R1,R2,R3,R4⟩
  ·have hat2:(at_==(n':Int))=false:=by simpa using hat
   have hts:Hid (toS ⟨ls,mo,at_,sl,pl,ol⟩ now=sl):=A4 (by unfold toS;simp only;rw[HN.out,if_neg hat])
   have R2:Hid (Bg W (w.heap.size+2) (.slice S' sn' sc') (toS ⟨ls,mo,at_,sl,pl,ol⟩ now)):=A4 (by rw[hts.out];exact HOS.out.ext HX2.out)
   have R3:Hid ((Aj S' sn' sc').ownBlock≠some g9):=A4 (fun e=>by have:=(HOS.out.blk g9 e).2;omega)
   go_wp2_with fail
   go_meet
   exact⟨S',sn',sc',HB9,R2,R3,HX2⟩
 case rest=>
  clear HB9 HX2 c93 f93 k0 k2;obtain⟨S2,s2,z2,HB9,HOS2,Hne,HX2⟩:=hcut;have f92:=HB9.out.frozen 2;obtain⟨_,_,c92,_⟩:=Cg HB9.out;have R1:=A4 (HB9.out.set_ 2 (.int .i64 (k:Int)));have R2:=A4 (Bg.setCell_ne (p:=⟨g9,2,none⟩) HOS2.out Hne.out (.int .i64 (k:Int)));have R4:=A4 (HX2.out.setCell (p:=⟨g9,2,none⟩) (show w1.heap.size≤g9 by omega) (.int .i64 (k:Int)))
  have hsz9:g9<(wc.setCell ⟨g9,2,none⟩ (.int .i64 (k:Int))).heap.size:=R1.out.lt;go_upto_region 5 with fail
  clear HB9 HOS2 HX2 c92 f92;generalize wc.setCell ⟨g9,2,none⟩ (.int .i64 (k:Int))=W2 at*;have HB9:Hid (An W2 g9 54 #[.slice O n' d,.int .i64 mo,.int .i64 (k:Int),.slice S2 s2 z2,.slice P' pn' pc',.bool ol]):=A4 R1.out;clear R1;obtain⟨k0,_⟩:=Cg (An.ext HB3.out R4.out);obtain⟨B5,n5,c5,hh5,hO5,hB5,hn5⟩:=R2.out;injection hh5 with h1 h2 h3;subst h1;subst h2;subst h3;by_cases hkn:k=n'
  ·subst hkn
   go_upto_if 27 with fail
   have hx6:=Cg HB9.out;have hxd:=fD (Al.drew W2) hx6;have HC:=A4 (Cy (hO5.ints.ext (Al.drew W2)) hB5 hn5);go_upto_region 6 with fail
   obtain⟨x0,x1,x2,x3,x4,x5⟩:=hxd;clear hx6;go_region_law (first
    |(
     refine J1 rfl 16 #[.slice S2 s2 z2] (by kernel_rfl) (fun v w'=>∃B6 z6,v=.slice B6 s2 z6∧Av w' W2.drew.heap.size B6 s2 z6 (toS ⟨ls,mo,at_,sl,pl,ol⟩ now)∧(B6=none→z6=0)∧Al W2.drew w') (HC.out.mono fun e w' ⟨B6,z6,h1,h2⟩=>⟨_,h1,B6,z6,rfl,h2⟩) ?_
     rintro v w3 ⟨B6,z6,rfl,hO6,hB6,he6⟩;have y0:=he6.cell x0;have y1:=he6.cell x1;have y2:=he6.cell x2;have y3:=he6.cell x3;have y4:=he6.cell x4;have y5:=he6.cell x5;have hb6:=An.ext (An.ext HB6.out (R4.out.trans (Al.drew W2))) he6;obtain⟨d0,d1,d2,d3,d4,d5⟩:=Cg hb6;obtain⟨f0,f1,f2,f3,f4,f5⟩:=Du hb6))
   all_goals
    have he7:=(Al.drew W2).trans he6;have hfin:=A4 (En hb6 (.slice O k d) (.int .i64 mo) (.int .i64 (k:Int)) (.slice S2 s2 z2) (.slice P' pn' pc') (.bool ol));have hlt1:w.heap.size+1<w.heap.size+2:=by omega
    have HOut:Hid (D3 (Pg w3 (w.heap.size+1) (.slice O k d) (.int .i64 mo) (.int .i64 (k:Int)) (.slice S2 s2 z2) (.slice P' pn' pc') (.bool ol)) w.heap.size (.agg (Ce O k d mo (k:Int) S2 s2 z2 P' pn' pc' ol)) (toH ⟨ls,mo,at_,sl,pl,ol⟩ now k)):=A4
     ((
      Gk (show D3 w3 (w.heap.size+2) (.agg (Ce O k d mo (k:Int) S2 s2 z2 P' pn' pc' ol)) (toH ⟨ls,mo,at_,sl,pl,ol⟩ now k)from
      ⟨O,k,d,S2,s2,z2,P',pn',pc',rfl,HOL.out.ext (R4.out.trans he7),R2.out.ext he7,HOP.out.ext (R4.out.trans he7)⟩) hlt1 _ _ _ _ _ _).lower (by omega))
    have HFar:Hid (Fq (Pg w3 (w.heap.size+1) (.slice O k d) (.int .i64 mo) (.int .i64 (k:Int)) (.slice S2 s2 z2) (.slice P' pn' pc') (.bool ol)) w.heap.size (.slice B6 s2 z6) (.agg (Ce O k d mo (k:Int) S2 s2 z2 P' pn' pc' ol)) (toH ⟨ls,mo,at_,sl,pl,ol⟩ now k)):=A4
     ((
      Ld ((Fq.of (L:=.slice B6 s2 z6) (show D3 W2.drew (w.heap.size+2) (.agg (Ce O k d mo (k:Int) S2 s2 z2 P' pn' pc' ol)) (toH ⟨ls,mo,at_,sl,pl,ol⟩ now k)from
      ⟨O,k,d,S2,s2,z2,P',pn',pc',rfl,HOL.out.ext (R4.out.trans (Al.drew W2)),R2.out.ext (Al.drew W2),HOP.out.ext (R4.out.trans (Al.drew W2))⟩) (fun g hg=>(Ay.blk hO6 g hg).1)).ext he6) hlt1 _ _ _ _ _ _).lower (by omega))
    have HLin:Hid (Av (Pg w3 (w.heap.size+1) (.slice O k d) (.int .i64 mo) (.int .i64 (k:Int)) (.slice S2 s2 z2) (.slice P' pn' pc') (.bool ol)) w.heap.size B6 s2 z6 (toL ⟨ls,mo,at_,sl,pl,ol⟩ now k)):=A4 (by
     rw[show toL ⟨ls,mo,at_,sl,pl,ol⟩ now k=toS ⟨ls,mo,at_,sl,pl,ol⟩ now from by unfold toL;simp only;rw[if_pos HN.out.symm]]
     exact Ay.lower (Hh (Ay.lower hO6 (show w.heap.size+2≤W2.drew.heap.size from Ap (show w.heap.size+2≤g9 by omega) (Nat.le_of_lt hsz9))) hlt1 _ _ _ _ _ _) (by omega))
    have HX9:Hid (Al w (Pg w3 (w.heap.size+1) (.slice O k d) (.int .i64 mo) (.int .i64 (k:Int)) (.slice S2 s2 z2) (.slice P' pn' pc') (.bool ol))):=A4 (Em (HX1.out.trans (R4.out.trans he7)) (by omega) _ _ _ _ _ _)
    have HB:=A4 hB6;clear he7 hb6 d0 d1 d2 d3 d4 d5 f0 f1 f2 f3 f4 f5 hO6 hB6 he6;unfold Pg at hfin HOut HLin HX9;go_wp2_with fail
    refine bodyPost_ret (v:=.tuple #[.agg (Ce O k d mo (k:Int) S2 s2 z2 P' pn' pc' ol),.slice B6 s2 z6,.int .i64 0]) ?_ rfl ⟨_,B6,s2,z6,rfl,HOut.out,HLin.out,HB.out,HX9.out,HFar.out⟩
    exact I3
  ·have hklt:k<n':=by omega
   have hkb:((k:Int)==(n':Int))=false:=by simp;omega
   go_upto_if 27 with fail
   obtain⟨ad,v,rfl,hc,B7,m7,c7,rfl,hI7,hB7,hm7⟩:=(HL.out.ext (HX1.out.trans R4.out)).at_ hklt;obtain⟨x0,x1,x2,x3,x4,x5⟩:=fD (Al.drew W2) (Cg HB9.out);have y0':W2.drew.cell? ⟨w.heap.size,0,none⟩=some (.slice (some ad) n' c):=k0;have hcd:W2.drew.cell? (ad.add k)=some (.slice B7 m7 c7):=hc;have HC:=A4 (Cy (hI7.ext (Al.drew W2)) hB7 hm7);clear hI7;go_upto_region 7 with fail
   go_region_law (first
    |(
     refine J1 rfl 16 #[.slice B7 m7 c7] (by kernel_rfl) (fun v w'=>∃B6 z6,v=.slice B6 m7 z6∧Av w' W2.drew.heap.size B6 m7 z6 (gL ls k)∧(B6=none→z6=0)∧Al W2.drew w') (HC.out.mono fun e w' ⟨B6,z6,h1,h2⟩=>⟨_,h1,B6,z6,rfl,h2⟩) ?_
     rintro v w3 ⟨B6,z6,rfl,hO6,hB6,he6⟩;have y0:=he6.cell x0;have y1:=he6.cell x1;have y2:=he6.cell x2;have y3:=he6.cell x3;have y4:=he6.cell x4;have y5:=he6.cell x5;have hb6:=An.ext (An.ext HB6.out (R4.out.trans (Al.drew W2))) he6;obtain⟨d0,d1,d2,d3,d4,d5⟩:=Cg hb6;obtain⟨f0,f1,f2,f3,f4,f5⟩:=Du hb6))
   all_goals
    have he7:=(Al.drew W2).trans he6;have hfin:=A4 (En hb6 (.slice O n' d) (.int .i64 mo) (.int .i64 (k:Int)) (.slice S2 s2 z2) (.slice P' pn' pc') (.bool ol));have hlt1:w.heap.size+1<w.heap.size+2:=by omega
    have HOut:Hid (D3 (Pg w3 (w.heap.size+1) (.slice O n' d) (.int .i64 mo) (.int .i64 (k:Int)) (.slice S2 s2 z2) (.slice P' pn' pc') (.bool ol)) w.heap.size (.agg (Ce O n' d mo (k:Int) S2 s2 z2 P' pn' pc' ol)) (toH ⟨ls,mo,at_,sl,pl,ol⟩ now k)):=A4
     ((
      Gk (show D3 w3 (w.heap.size+2) (.agg (Ce O n' d mo (k:Int) S2 s2 z2 P' pn' pc' ol)) (toH ⟨ls,mo,at_,sl,pl,ol⟩ now k)from
      ⟨O,n',d,S2,s2,z2,P',pn',pc',rfl,HOL.out.ext (R4.out.trans he7),R2.out.ext he7,HOP.out.ext (R4.out.trans he7)⟩) hlt1 _ _ _ _ _ _).lower (by omega))
    have HFar:Hid (Fq (Pg w3 (w.heap.size+1) (.slice O n' d) (.int .i64 mo) (.int .i64 (k:Int)) (.slice S2 s2 z2) (.slice P' pn' pc') (.bool ol)) w.heap.size (.slice B6 m7 z6) (.agg (Ce O n' d mo (k:Int) S2 s2 z2 P' pn' pc' ol)) (toH ⟨ls,mo,at_,sl,pl,ol⟩ now k)):=A4
     ((
      Ld ((Fq.of (L:=.slice B6 m7 z6) (show D3 W2.drew (w.heap.size+2) (.agg (Ce O n' d mo (k:Int) S2 s2 z2 P' pn' pc' ol)) (toH ⟨ls,mo,at_,sl,pl,ol⟩ now k)from
      ⟨O,n',d,S2,s2,z2,P',pn',pc',rfl,HOL.out.ext (R4.out.trans (Al.drew W2)),R2.out.ext (Al.drew W2),HOP.out.ext (R4.out.trans (Al.drew W2))⟩) (fun g hg=>(Ay.blk hO6 g hg).1)).ext he6) hlt1 _ _ _ _ _ _).lower (by omega))
    have HLin:Hid (Av (Pg w3 (w.heap.size+1) (.slice O n' d) (.int .i64 mo) (.int .i64 (k:Int)) (.slice S2 s2 z2) (.slice P' pn' pc') (.bool ol)) w.heap.size B6 m7 z6 (toL ⟨ls,mo,at_,sl,pl,ol⟩ now k)):=A4 (by
     rw[show toL ⟨ls,mo,at_,sl,pl,ol⟩ now k=gL ls k from by unfold toL;simp only;rw[if_neg (by rw[HN.out];exact hkn)]]
     exact Ay.lower (Hh (Ay.lower hO6 (show w.heap.size+2≤W2.drew.heap.size from Ap (show w.heap.size+2≤g9 by omega) (Nat.le_of_lt hsz9))) hlt1 _ _ _ _ _ _) (by omega))
    have HX9:Hid (Al w (Pg w3 (w.heap.size+1) (.slice O n' d) (.int .i64 mo) (.int .i64 (k:Int)) (.slice S2 s2 z2) (.slice P' pn' pc') (.bool ol))):=A4 (Em (HX1.out.trans (R4.out.trans he7)) (by omega) _ _ _ _ _ _)
    have HB:=A4 hB6;clear he7 hb6 d0 d1 d2 d3 d4 d5 f0 f1 f2 f3 f4 f5 hO6 hB6 he6;unfold Pg at hfin HOut HLin HX9;go_wp2_with fail
    refine bodyPost_ret (v:=.tuple #[.agg (Ce O n' d mo (k:Int) S2 s2 z2 P' pn' pc' ol),.slice B6 m7 z6,.int .i64 0]) ?_ rfl ⟨_,B6,m7,z6,rfl,HOut.out,HLin.out,HB.out,HX9.out,HFar.out⟩
    exact I3
theorem kY {k:Nat}(hv:L8 w v h)(hsm:h.lines.length≤1000)(hnow:Bi w N q y now)(hN:N=none→y=0)(hq:q*8≤140737488355328)(hk:k≤h.lines.length):
 Calls Tryz.prog 80 #[v,.slice N q y,.int .i64 k] w fun e w'=>∃u L m z,e=.returned (.tuple #[u,.slice L m z,.int .i64 0])∧D3 w' w.heap.size u (toH h now k)∧Av w' w.heap.size L m z (toL h now k)∧(L=none→z=0)∧Al w w':=
 (Xn hv hsm hnow hN hq hk).mono fun e w' ⟨u,L,m,z,h1,h2,h3,h4,h5,_⟩=>⟨u,L,m,z,h1,h2,h3,h4,h5⟩
def Ko (h:Hi)(now:List Int)(k:Int):Prop:=¬h.bad∧¬h.long∧now.length≤200∧0≤k∧k≤999
theorem L8.cells (hv:L8 w v h):∃A n c S sn sc P pn pc,v=.agg (Ce A n c h.most h.at_ S sn sc P pn pc h.older)∧h.lines.length=n∧n≤maxLen:=by
 obtain⟨A,n,c,S,sn,sc,P,pn,pc,rfl,hL,_⟩:=hv;exact⟨A,n,c,S,sn,sc,P,pn,pc,rfl,hL.len,Ap hL.ncap hL.nmax⟩
theorem Qm (hv:L8 w v h)(hnow:Bi w N q y now):
 Calls Tryz.prog 78 #[v,.slice N q y,.int .i64 k] w fun e w'=>∃x:Int,e=.returned (.int .i64 x)∧(x=0↔Ko h now k)∧Al w w':=by
 have HV:=A4 hv;have HC:=A4 (Vy (hv.ext (Al.alloc w (.cells (match v with|.agg cs=>cs|_=>#[]) 54))))
 obtain⟨A,n,c,S,sn,sc,P,pn,pc,rfl,_⟩:=hv.cells;have hql:=A4 hnow.len;have hqy:=Ap hnow.ncap hnow.nmax;unfold maxLen at hqy;simp only at HC;clear hv hnow;unfold Ce at*;go_enter Tryz.func78,Tryz.ntmps78
 go_wp2_with fail
 refine HC.out.mono ?_
 rintro e w1 ⟨x,rfl,hck,he1⟩;have hx:=A4 ((Al.alloc _ _).trans he1);have hk:=A4 hck;clear HC he1 hck;by_cases hx0:x=0
 ·subst hx0
  have hg:=A4 (hk.out.zero rfl);by_cases h1:200<q
  ·go_wp2_with fail
   go_ret
   exact⟨2,rfl,⟨by omega,fun hgd=>by have:=hgd.2.2.1;have:=hql.out;omega⟩,hx.out⟩
  have h1':q≤200:=by omega
  by_cases h2:k<0
  ·clear h1
   go_wp2_with fail
   go_ret
   exact⟨1,rfl,⟨by omega,fun hgd=>by have:=hgd.2.2.2.1;omega⟩,hx.out⟩
  have h2':0≤k:=by omega
  by_cases h3:999<k
  ·clear h1 h2
   go_wp2_with fail
   go_ret
   exact⟨1,rfl,⟨by omega,fun hgd=>by have:=hgd.2.2.2.2;omega⟩,hx.out⟩
  ·have h3':k≤999:=by omega
   clear h1 h2 h3;go_wp2_with fail
   go_ret
   exact⟨0,rfl,⟨fun _=>⟨hg.out.1,hg.out.2,by have:=hql.out;omega,h2',h3'⟩,fun _=>rfl⟩,hx.out⟩
 ·have hxb:(x !=0)=true:=by simpa using hx0
  have hxb2:(x==0)=false:=by simpa using hx0
  have hng:Hid (¬Ko h now k):=A4 (fun hgd=>by
   rcases hk.out with⟨hb,_⟩|⟨_,hl,_⟩|⟨_,_,h0⟩
   ·exact hgd.1 hb
   ·exact hgd.2.1 hl
   ·exact hx0 h0)
  have hx0':=A4 hx0;clear hx0;go_wp2_with fail
  go_ret
  exact⟨x,rfl,⟨fun h0=>absurd h0 hx0'.out,fun hgd=>absurd hgd hng.out⟩,hx.out⟩
def Qk (ok:Prop)(h:Hi)(now:List Int)(k:Nat)(w:World)(e:Ending)(w':World):Prop:=
 Al w w'∧((ok∧∃u L m z,e=.returned (.tuple #[u,.slice L m z,.int .i64 0])∧D3 w' w.heap.size u (toH h now k)∧Av w' w.heap.size L m z (toL h now k)∧(L=none→z=0))∨
  (¬ok∧∃x:Int,e=.returned (.tuple #[.agg Dj,.slice none 0 0,.int .i64 x])∧x≠0))
def Gc (k:Int):Nat:=(max 1 k).toNat
def kS (ok:Prop)(h:Hi)(now:List Int)(k:Nat)(w:World)(e:Ending)(w':World):Prop:=
 Al w w'∧((ok∧∃u L m z,e=.returned (.tuple #[u,.slice L m z,.int .i64 0])∧D3 w' w.heap.size u (toH h now k)∧Av w' w.heap.size L m z (toL h now k)∧(L=none→z=0)∧Fq w' w.heap.size (.slice L m z) u (toH h now k))∨
  (¬ok∧∃x:Int,e=.returned (.tuple #[.agg Dj,.slice none 0 0,.int .i64 x])∧x≠0))
theorem kS.goes {ok:Prop}{k:Nat}{e:Ending}{w':World}(hh:kS ok h now k w e w'):Qk ok h now k w e w':=
 ⟨hh.1,hh.2.imp (fun⟨h1,u,L,m,z,h2,h3,h4,h5,_⟩=>⟨h1,u,L,m,z,h2,h3,h4,h5⟩) id⟩
theorem uF (hv:L8 w v h)(hnow:Bi w N q y now)(hN:N=none→y=0):
 Calls Tryz.prog 58 #[v,.slice N q y,.int .i64 k] w (kS (Ko h now k∧(Gc k:Int)≤h.at_) h now (h.at_.toNat-Gc k) w):=by
 have N0:=trivial;exact K7
theorem xC (hv:L8 w v h)(hnow:Bi w N q y now)(hN:N=none→y=0):
 Calls Tryz.prog 58 #[v,.slice N q y,.int .i64 k] w (Qk (Ko h now k∧(Gc k:Int)≤h.at_) h now (h.at_.toNat-Gc k) w):=
 (uF hv hnow hN).mono fun _ _ h=>h.goes
theorem sL (hv:L8 w v h)(hnow:Bi w N q y now)(hN:N=none→y=0):
 Calls Tryz.prog 59 #[v,.slice N q y,.int .i64 k] w (Qk (Ko h now k∧(Gc k:Int)+h.at_≤(h.lines.length:Int)) h now (h.at_.toNat+Gc k) w):=by
 have N1:=trivial;exact K7
theorem Z7:¬h.long↔(∀i,i<h.lines.length→(gL h.lines i).length≤200)∧h.scratch.length≤200∧h.pattern.length≤200:=by
 constructor
 ·intro hn
  have hl:h.all.length=h.lines.length+2:=by unfold Hi.all;simp
  have key:∀i,i<h.lines.length+2→(gL h.all i).length≤200:=fun i hi=>by
   rcases At 200 (gL h.all i).length with h1|h1
   ·exact absurd ⟨i,by omega,h1⟩ hn
   ·exact h1
  refine⟨fun i hi=>?_,?_,?_⟩
  ·have:=key i (by omega)
   unfold gL Hi.all at this;rw[Bu hi]at this;exact this
  ·have:=key h.lines.length (by omega)
   unfold gL Hi.all at this;rw[Ca (Ai _),Nat.sub_self]at this;exact this
  ·have:=key (h.lines.length+1) (by omega)
   unfold gL Hi.all at this;rw[Ca (by omega),show h.lines.length+1-h.lines.length=1 by omega]at this
   exact this
 ·rintro⟨h1,h2,h3⟩ ⟨i,hi,hl⟩
  unfold gL Hi.all at hl;unfold Hi.all at hi;simp only[List.length_append,List.length_cons,List.length_nil]at hi;rcases At i h.lines.length with hlt|hge
  ·rw[Bu hlt]at hl
   have:=h1 i hlt;unfold gL at this;omega
  ·have:i=h.lines.length∨i=h.lines.length+1:=by omega
   rcases this with rfl|rfl
   ·rw[Ca (Ai _),Nat.sub_self]at hl
    simp at hl;omega
   ·rw[Ca (by omega),show h.lines.length+1-h.lines.length=1 by omega]at hl
    simp at hl;omega
theorem aL.nil (w:World):aL w [] []:=⟨rfl,fun i hi=>absurd hi (by simp)⟩
def Jp (h:Hi)(p:List Int):List Int:=if p.length=0 then h.pattern else p
def pP (ls:List (List Int))(p:List Int):Nat→Option Nat
 |0=>none
 |k+1=>if Lw p (gL ls k)then some k else pP ls p k
def pQ (ls:List (List Int))(p:List Int)(n:Nat):Nat→Option Nat
 |0=>none
 |r+1=>if Lw p (gL ls (n-(r+1)))then some (n-(r+1))else pQ ls p n r
def Yk (h:Hi)(p:List Int)(older:Bool):Option Nat:=if older=true then pP h.lines p h.at_.toNat else pQ h.lines p h.lines.length (h.lines.length-(h.at_.toNat+1))
def Yc (h:Hi)(now p:List Int)(older:Bool)(k:Nat):Prop:=Ko h now 0∧p.length≤200∧Jp h p≠[]∧Yk h (Jp h p) older=some k
def findH (h:Hi)(now p:List Int)(older:Bool)(k:Nat):Hi:=⟨h.lines,h.most,k,toS h now,Jp h p,older⟩
def tP (h:Hi)(now p:List Int)(older:Bool)(w:World)(e:Ending)(w':World):Prop:=
 Al w w'∧((∃k,Yc h now p older k∧k<h.lines.length∧∃u L m z,e=.returned (.tuple #[u,.slice L m z,.int .i64 0])∧D3 w' w.heap.size u (findH h now p older k)∧Av w' w.heap.size L m z (toL h now k)∧(L=none→z=0))∨
  ((∀k,¬Yc h now p older k)∧∃x:Int,e=.returned (.tuple #[.agg Dj,.slice none 0 0,.int .i64 x])∧x≠0))
def aY (h:Hi)(now p:List Int)(older:Bool)(w:World)(e:Ending)(w':World):Prop:=
 Al w w'∧((∃k,Yc h now p older k∧k<h.lines.length∧∃u L m z,e=.returned (.tuple #[u,.slice L m z,.int .i64 0])∧D3 w' w.heap.size u (findH h now p older k)∧Av w' w.heap.size L m z (toL h now k)∧(L=none→z=0)∧Fq w' w.heap.size (.slice L m z) u (findH h now p older k))∨
  ((∀k,¬Yc h now p older k)∧∃x:Int,e=.returned (.tuple #[.agg Dj,.slice none 0 0,.int .i64 x])∧x≠0))
theorem aY.finds {e:Ending}{w':World}(hh:aY h now p older w e w'):tP h now p older w e w':=
 ⟨hh.1,hh.2.imp (fun⟨k,h1,h2,u,L,m,z,h3,h4,h5,h6,_⟩=>⟨k,h1,h2,u,L,m,z,h3,h4,h5,h6⟩) id⟩
theorem oE (hv:L8 w v h)(hnow:Bi w N q y now)(hN:N=none→y=0)(hp:Bi w T0 t0 z0 p)(hp0:T0=none→z0=0):
 Calls Tryz.prog 44 #[v,.slice N q y,.slice T0 t0 z0,.bool older] w (aY h now p older w):=by
 have HV:=A4 hv;have hLL:∃A n c,∃S sn sc P pn pc,v=.agg (Ce A n c h.most h.at_ S sn sc P pn pc h.older)∧V7 w A n c h.lines∧Kq w (.slice P pn pc) h.pattern:=by
  obtain⟨A,n,c,S,sn,sc,P,pn,pc,e,h1,_,_,h4⟩:=hv;exact⟨A,n,c,S,sn,sc,P,pn,pc,e,h1,h4⟩
 obtain⟨A,n,c,S,sn,sc,P,pn,pc,rfl,hL,hP⟩:=hLL;obtain⟨ls,mo,at_,sl,pl,ol⟩:=h;simp only at hL hP;have HL:=A4 hL;obtain⟨P',pn',pc',he',hPI,hP0,hpn⟩:=hP;injection he' with e1 e2 e3;subst e1;subst e2;subst e3;have HPI:=A4 hPI;have HPp:=A4 hp;have HN:=A4 hL.len;have HNow:=A4 hnow;have hql:=A4 hnow.len;have htl:=A4 hp.len;have hnm:=Ap hL.ncap hL.nmax;have htm:=Ap hp.ncap hp.nmax;have hb0:=A4 ((An.new w 54 (Ce A n c mo at_ S sn sc P pn pc ol)).ext (Al.alloc _ (.cells Dj 54)));have hb1:Hid (An ((w.alloc (.cells (Ce A n c mo at_ S sn sc P pn pc ol) 54)).alloc (.cells Dj 54)) (w.heap.size+1) 54 Dj):=A4 (by
  have:=An.new (w.alloc (.cells (Ce A n c mo at_ S sn sc P pn pc ol) 54)) 54 Dj
  rwa[World.size_alloc]at this)
 have hx0:Hid (Al w ((w.alloc (.cells (Ce A n c mo at_ S sn sc P pn pc ol) 54)).alloc (.cells Dj 54))):=A4 ((Al.alloc _ _).to_alloc _);have HR:=A4 (Qm (k:=0) (HV.out.ext hx0.out) (hnow.ext hx0.out));have hsz0:Hid (w.heap.size+2≤((w.alloc (.cells (Ce A n c mo at_ S sn sc P pn pc ol) 54)).alloc (.cells Dj 54)).heap.size):=A4 (by simp)
 unfold maxLen at hnm htm;clear hv hnow hL hp hPI;unfold Ce Dj at*;go_enter Tryz.func44,Tryz.ntmps44
 go_wp2_with fail
 refine HR.out.mono ?_
 rintro e w1 ⟨x,rfl,hgd,he1⟩;have hx1:=A4 (hx0.out.trans he1);have B3:=A4 (An.ext hb0.out he1);have B6:=A4 (An.ext hb1.out he1);have hsz1:w.heap.size+2≤w1.heap.size:=Ap hsz0.out he1.hsize;have HG:=A4 hgd;obtain⟨k0,k1,k2,k3,k4,k5⟩:=Cg B3.out;obtain⟨d0,d1,d2,d3,d4,d5⟩:=Cg B6.out;obtain⟨f0,f1,f2,f3,f4,f5⟩:=Du B6.out;have HX:=A4 (Em hx1.out (show w.heap.size≤w.heap.size+1 by omega) (.slice none 0 0) (.int .i64 0) (.int .i64 0) (.slice none 0 0) (.slice none 0 0) (.bool false))
 have hfin:=A4 (En B6.out (.slice none 0 0) (.int .i64 0) (.int .i64 0) (.slice none 0 0) (.slice none 0 0) (.bool false));unfold Pg at HX hfin;clear HR hb0 hb1 hx0 he1 hgd;by_cases hx0:x=0
 case neg=>
  have hxb:(x !=0)=true:=by simpa using hx0
  have hno:Hid (∀k,¬Yc ⟨ls,mo,at_,sl,pl,ol⟩ now p older k):=A4 (fun k hh=>hx0 (HG.out.2 hh.1))
  have hx0':=A4 hx0;clear hx0 HG;go_wp2_with fail
  refine bodyPost_ret (v:=.tuple #[.agg Dj,.slice none 0 0,.int .i64 x]) ?_ rfl ⟨HX.out,.inr ⟨hno.out,x,rfl,hx0'.out⟩⟩
  exact I3
 case pos=>
  subst hx0;by_cases ht2:(200:Int)<(t0:Int)
  ·have hno:Hid (∀k,¬Yc ⟨ls,mo,at_,sl,pl,ol⟩ now p older k):=A4 (fun k hh=>by have:=hh.2.1;have:=htl.out;omega)
   clear HG;go_wp2_with fail
   refine bodyPost_ret (v:=.tuple #[.agg Dj,.slice none 0 0,.int .i64 2]) ?_ rfl ⟨HX.out,.inr ⟨hno.out,2,rfl,by omega⟩⟩
   exact I3
  ·have HGd:=A4 (HG.out.1 rfl)
   have hg1:=HGd.out.1;unfold Hi.bad at hg1;simp only at hg1;rw[HN.out]at hg1;have hq2:q≤200:=by have:=HGd.out.2.2.1;have:=hql.out;omega
   obtain⟨a,rfl⟩:∃a:Nat,at_=a:=⟨at_.toNat,by omega⟩
   have ht3:(t0:Int)≤200:=by omega
   have ha:a≤n:=by omega
   have hn50:n≤50:=by omega
   have ht4:t0≤200:=by omega
   have ht5:decide ((200:Int)<(t0:Int))=false:=by simp;omega
   clear hg1 HG ht2 ht3;go_upto_if 30 with fail
   go_cut [2] (fun s2 wx=>∃(T:Option Addr) (t z:Nat),s2=.slice T t z∧t≤200∧Hid (Bi w1 T t z (Jp ⟨ls,mo,(a:Int),sl,pl,ol⟩ p))∧Hid (T=none→z=0)∧w1=wx)
   case first=>
    cases hb:((t0:Int)==0)
    ·have hpe:Hid (Jp ⟨ls,mo,(a:Int),sl,pl,ol⟩ p=p):=A4 (by unfold Jp;rw[if_neg (by rw[htl.out];simp at hb;omega)])
     clear hb;go_wp2_with fail
     go_meet
     exact⟨T0,t0,z0,rfl,ht4,A4 (by rw[hpe.out];exact HPp.out.ext hx1.out),A4 hp0,rfl⟩
    ·have hpe:Hid (Jp ⟨ls,mo,(a:Int),sl,pl,ol⟩ p=pl):=A4 (by unfold Jp;rw[if_pos (by rw[htl.out];simp at hb;omega)])
     have hp2:pn≤200:=by have:=(Z7.1 HGd.out.2.1).2.2;simp only at this;have:=HPI.out.len;omega
     clear hb;go_wp2_with fail
     go_meet
     exact⟨P,pn,pc,rfl,hp2,A4 (by rw[hpe.out];exact HPI.out.ext hx1.out),A4 hP0,rfl⟩
   case rest=>
    obtain⟨T,t,z,rfl,ht200,HT,HT0,rfl⟩:=hcut;by_cases ht0:t=0
    ·have hbz:((t:Int)==0)=true:=by simp;omega
     have hpn0:Hid ((Jp ⟨ls,mo,(a:Int),sl,pl,ol⟩ p)=[]):=A4 (List.eq_nil_of_length_eq_zero (by rw[HT.out.len];exact ht0))
     clear ht0;have hno:Hid (∀k,¬Yc ⟨ls,mo,(a:Int),sl,pl,ol⟩ now p older k):=A4 (fun k hh=>hh.2.2.1 hpn0.out)
     go_wp2_with fail
     refine bodyPost_ret (v:=.tuple #[.agg Dj,.slice none 0 0,.int .i64 6]) ?_ rfl ⟨HX.out,.inr ⟨hno.out,6,rfl,by omega⟩⟩
     exact I3
    ·have hbz:((t:Int)==0)=false:=by simp;omega
     have hpos:0<t:=by omega
     clear ht0 HX hfin d0 d1 d2 d3 d4 d5 f0 f1 f2 f3 f4 f5;cases older
     ·-- up
      go_wp2_with fail
      go_loopw [13] (fun s13 wx=>∃(j:Nat),s13=.int .i64 (j:Int)∧a+1≤j∧j≤n+1∧Hid (pQ ls (Jp ⟨ls,mo,(a:Int),sl,pl,ol⟩ p) n (n-(a+1))=pQ ls (Jp ⟨ls,mo,(a:Int),sl,pl,ol⟩ p) n (n-j))∧Hid (Al w1 wx)) (fun s13 _=>n+1-(intOf s13).toNat)
      case atStart=>exact⟨a+1,by go_num,by omega,by omega,A4 rfl,A4 (Al.refl _)⟩
      case round=>
       clear k0 k1 k2 k3 k4 k5;obtain⟨j,rfl,hj1,hj2,hfd,hxl⟩:=hrel;by_cases hlt:j<n
       ·have N0:=trivial;exact K6
       ·have N0:=trivial;exact zN
     ·-- down
      go_wp2_with fail
      go_loopw [13] (fun s13 wx=>∃(j:Nat) (i:Int),s13=.int .i64 i∧Hid (i=(j:Int)-1)∧j≤a∧Hid (pP ls (Jp ⟨ls,mo,(a:Int),sl,pl,ol⟩ p) a=pP ls (Jp ⟨ls,mo,(a:Int),sl,pl,ol⟩ p) j)∧Hid (Al w1 wx)) (fun s13 _=>(intOf s13+1).toNat)
      case atStart=>exact⟨a,_,rfl,A4 (by omega),Nat.le_refl _,A4 rfl,A4 (Al.refl _)⟩
      case round=>
       clear k0 k1 k2 k3 k4 k5;obtain⟨j1,i,rfl,hij,hj1,hfd,hxl⟩:=hrel;rcases j1 with _|j
       ·have N1:=trivial;exact zN
       ·have N1:=trivial;exact K6
theorem eW (hv:L8 w v h)(hnow:Bi w N q y now)(hN:N=none→y=0)(hp:Bi w T0 t0 z0 p)(hp0:T0=none→z0=0):
 Calls Tryz.prog 44 #[v,.slice N q y,.slice T0 t0 z0,.bool older] w (tP h now p older w):=
 (oE hv hnow hN hp hp0).mono fun _ _ h=>h.finds
def Pp (k:Int):Nat:=(max 0 (k-1)).toNat
theorem rQ (hv:L8 w v h)(hnow:Bi w N q y now)(hN:N=none→y=0):
 Calls Tryz.prog 60 #[v,.slice N q y,.int .i64 k] w (Qk (Ko h now k∧k≤(h.lines.length:Int)∧0<h.lines.length) h now (Pp k) w):=by
 have N2:=trivial;exact K7
theorem Fv {g q t i:Nat}{u:Value}(h:An w q t cs)(hne:g≠q):An (w.setCell ⟨g,i,none⟩ u) q t cs:=by
 unfold An at h ⊢;unfold World.setCell;simp only[Array.getElem?_modify,hne,if_false,h]
def lI (h:Hi)(now:List Int)(turned:Bool)(w:World)(e:Ending)(w':World):Prop:=
 Al w w'∧((∃k,Yc h now [] (h.older !=turned) k∧k<h.lines.length∧∃u L m z,e=.returned (.tuple #[u,.slice L m z,.int .i64 0])∧D3 w' w.heap.size u (findH h now [] h.older k)∧Av w' w.heap.size L m z (toL h now k)∧(L=none→z=0))∨
  ((∀k,¬Yc h now [] (h.older !=turned) k)∧∃x:Int,e=.returned (.tuple #[.agg Dj,.slice none 0 0,.int .i64 x])∧x≠0))
theorem Zm {turned:Bool}(hv:L8 w v h)(hnow:Bi w N q y now)(hN:N=none→y=0):
 Calls Tryz.prog 61 #[v,.slice N q y,.bool turned] w (lI h now turned w):=by
 have HV:=A4 hv;obtain⟨A,n,c,S,sn,sc,P,pn,pc,rfl,hn,hnm⟩:=hv.cells;obtain⟨ls,mo,at_,sl,pl,ol⟩:=h;have hx0:Hid (Al w ((w.alloc (.cells (Ce A n c mo at_ S sn sc P pn pc ol) 54)).alloc (.cells Dj 54))):=A4 ((Al.alloc _ _).to_alloc _);have hb1:Hid (An ((w.alloc (.cells (Ce A n c mo at_ S sn sc P pn pc ol) 54)).alloc (.cells Dj 54)) (w.heap.size+1) 54 Dj):=A4 (by
  have:=An.new (w.alloc (.cells (Ce A n c mo at_ S sn sc P pn pc ol) 54)) 54 Dj
  rwa[World.size_alloc]at this)
 have hb0:=A4 ((An.new w 54 (Ce A n c mo at_ S sn sc P pn pc ol)).ext (Al.alloc _ (.cells Dj 54)));have HR:=A4 (eW (older:=ol !=turned) (T0:=none) (t0:=0) (z0:=0) (p:=[]) (HV.out.ext hx0.out) (hnow.ext hx0.out) hN (Bi.none_ _) (fun _=>rfl))
 have hsz0:Hid (((w.alloc (.cells (Ce A n c mo at_ S sn sc P pn pc ol) 54)).alloc (.cells Dj 54)).heap.size=w.heap.size+2):=A4 (by simp)
 clear hv hn hnow hnm;unfold Ce Dj at*;go_enter Tryz.func61,Tryz.ntmps61
 go_wp2_with fail
 refine HR.out.mono ?_
 rintro e w1 ⟨he1,hr⟩;have hx1:=A4 (hx0.out.trans he1);have hsz1:w.heap.size+2≤w1.heap.size:=by have:=he1.hsize;rw[hsz0.out]at this;exact this
 have B3:=A4 (An.ext hb0.out he1);have B6:=A4 (An.ext hb1.out he1);obtain⟨k0,k1,k2,k3,k4,k5⟩:=Cg B3.out;obtain⟨d0,d1,d2,d3,d4,d5⟩:=Cg B6.out;obtain⟨f0,f1,f2,f3,f4,f5⟩:=Du B6.out;clear HR hb0 hb1 hx0 he1;rcases hr with⟨k,hf,hk,u,L,m,z,rfl,hO,hLi,hL0⟩|⟨hno,x,rfl,hx⟩
 ·rw[hsz0.out]at hO hLi
  obtain⟨O',n',c',S',sn',sc',P',pn',pc',rfl,hOr⟩:=hO;have HO:=A4 (show D3 w1 (w.heap.size+2) (.agg (Ce O' n' c' mo k S' sn' sc' P' pn' pc' ol)) (findH ⟨ls,mo,at_,sl,pl,ol⟩ now [] ol k)from⟨O',n',c',S',sn',sc',P',pn',pc',rfl,hOr⟩)
  have HOK:=A4 hf;have HK:=A4 hk;have HL:=A4 hLi;have HL0:=A4 hL0;clear hOr hLi hL0 hf hk;have hbx:=An.new w1 54 #[.slice O' n' c',.int .i64 mo,.int .i64 k,.slice S' sn' sc',.slice P' pn' pc',.bool (ol !=turned)];have hex:=Al.alloc w1 (.cells #[.slice O' n' c',.int .i64 mo,.int .i64 k,.slice S' sn' sc',.slice P' pn' pc',.bool (ol !=turned)] 54);have B3':=A4 (An.ext B3.out hex);have B6':=A4 (An.ext B6.out hex);unfold Ce;simp only[findH];go_upto_region 3 with fail
  generalize w1.alloc (.cells #[.slice O' n' c',.int .i64 mo,.int .i64 k,.slice S' sn' sc',.slice P' pn' pc',.bool (ol !=turned)] 54)=W at*;clear k0 k1 k2 k3 k4 k5 d0 d1 d2 d3 d4 d5 f0 f1 f2 f3 f4 f5;have e5:W.cell? ⟨w.heap.size,5,none⟩=some (.bool ol):=B3'.out.cell 5;obtain⟨d0,d1,d2,d3,d4,d5⟩:=Cg B6'.out;obtain⟨f0,f1,f2,f3,f4,f5⟩:=Du B6'.out;obtain⟨x0,x1,x2,x3,x4,x5⟩:=Cg hbx;obtain⟨g0,g1,g2,g3,g4,g5⟩:=Du hbx;have hX9:=A4 (hex.setCell (p:=⟨w1.heap.size,5,none⟩) (Nat.le_refl _) (.bool ol));have B69:=A4 (Fv (i:=5) (u:=.bool ol) B6'.out (show w1.heap.size≠w.heap.size+1 by omega))
  have HO6:=A4 (Gk (g:=w.heap.size+1) (HO.out.ext hX9.out) (by omega) (.slice O' n' c') (.int .i64 mo) (.int .i64 k) (.slice S' sn' sc') (.slice P' pn' pc') (.bool ol))
  have HL6:=A4 (Hh (g:=w.heap.size+1) (Av.ext HL.out hX9.out) (by omega) (.slice O' n' c') (.int .i64 mo) (.int .i64 k) (.slice S' sn' sc') (.slice P' pn' pc') (.bool ol))
  have HX6:=A4 (Em (hx1.out.trans hX9.out) (show w.heap.size≤w.heap.size+1 by omega) (.slice O' n' c') (.int .i64 mo) (.int .i64 k) (.slice S' sn' sc') (.slice P' pn' pc') (.bool ol))
  have hf6:=A4 (En B69.out (.slice O' n' c') (.int .i64 mo) (.int .i64 k) (.slice S' sn' sc') (.slice P' pn' pc') (.bool ol));have n1:¬w1.heap.size=w.heap.size+1:=by omega
  have n2:¬w.heap.size+1=w1.heap.size:=by omega
  clear hbx hex;unfold Pg at HO6 HL6 HX6 hf6;go_wp2_with fail
  refine bodyPost_ret (v:=.tuple #[.agg (Ce O' n' c' mo k S' sn' sc' P' pn' pc' ol),.slice L m z,.int .i64 0]) ?_ rfl ⟨HX6.out,.inl ⟨k,HOK.out,HK.out,_,L,m,z,rfl,HO6.out.lower (by omega),Ay.lower HL6.out (by omega),HL0.out⟩⟩
  exact I5
 ·have hxb:(x==0)=false:=by simpa using hx
  have HX:=A4 hx;have HNO:=A4 hno;clear hx hno;have hbx:=An.new w1 54 #[.slice none 0 0,.int .i64 0,.int .i64 0,.slice none 0 0,.slice none 0 0,.bool false];have hex:=Al.alloc w1 (.cells #[.slice none 0 0,.int .i64 0,.int .i64 0,.slice none 0 0,.slice none 0 0,.bool false] 54);have B6':=A4 (An.ext B6.out hex);unfold Dj;go_upto_region 4 with fail
  generalize w1.alloc (.cells #[.slice none 0 0,.int .i64 0,.int .i64 0,.slice none 0 0,.slice none 0 0,.bool false] 54)=W at*;clear k0 k1 k2 k3 k4 k5 d0 d1 d2 d3 d4 d5 f0 f1 f2 f3 f4 f5;obtain⟨d0,d1,d2,d3,d4,d5⟩:=Cg B6'.out;obtain⟨f0,f1,f2,f3,f4,f5⟩:=Du B6'.out;obtain⟨x0,x1,x2,x3,x4,x5⟩:=Cg hbx;have HX6:=A4 (Em (hx1.out.trans hex) (show w.heap.size≤w.heap.size+1 by omega) (.slice none 0 0) (.int .i64 0) (.int .i64 0) (.slice none 0 0) (.slice none 0 0) (.bool false))
  have hf6:=A4 (En B6'.out (.slice none 0 0) (.int .i64 0) (.int .i64 0) (.slice none 0 0) (.slice none 0 0) (.bool false));have HP:=A4 (show lI ⟨ls,mo,at_,sl,pl,ol⟩ now turned w (.returned (.tuple #[.agg Dj,.slice none 0 0,.int .i64 x])) _ from⟨HX6.out,.inr ⟨HNO.out,x,rfl,HX.out⟩⟩)
  clear hbx hex;unfold Pg at HP hf6;go_wp2_with fail
  refine bodyPost_ret (v:=.tuple #[.agg Dj,.slice none 0 0,.int .i64 x]) ?_ rfl HP.out
  exact I5
theorem sG {n c d:Nat}(hl:V7 w A n c ls)(hl':V7 w B n d ls):
 Calls Tryz.prog 39 #[.slice A n c,.slice B n d,.func (.func 9) #[] #[]] w fun e w'=>e=.returned (.bool true)∧Al w w':=by
 have h1:=Nat.le_trans hl.ncap hl.nmax;unfold maxLen at h1;have HL:=A4 hl;have HL':=A4 hl';have hne:((n:Int) !=(n:Int))=false:=by simp
 clear hl hl';go_enter Tryz.func39,Tryz.ntmps39
 go_wp2_with fail
 go_loopw [17] (fun i wr=>∃k:Nat,k≤n∧i=.int .i64 k∧Hid (Al w wr)) (fun i _=>n-(intOf i).toNat)
 case atStart=>exact⟨0,by omega,rfl,A4 (Al.refl _)⟩
 case round=>
  obtain⟨k,hk,rfl,hx⟩:=hrel;by_cases hlt:k<n
  ·obtain⟨a1,v1,rfl,hc1,B1,m1,q1,rfl,hI1,_⟩:=(HL.out.ext hx.out).at_ hlt
   obtain⟨a2,v2,rfl,hc2,B2,m2,q2,rfl,hI2,_⟩:=(HL'.out.ext hx.out).at_ hlt;have HQ:=A4 (J4 hI1 hI2);rw[Lf.2 rfl]at HQ;clear hI1 hI2;go_wp2_with fail
   refine HQ.out.mono ?_
   rintro e w1 ⟨rfl,he1⟩;have hx1:=A4 (hx.out.trans he1);clear HQ he1 hc1 hc2 hx;go_wp2_with fail
   go_roundw
   case rel=>exact⟨k+1,by omega,by go_num,hx1⟩
   case measure=>simp[intOf];omega
  ·obtain rfl:k=n:=by omega
   go_wp2_with fail
   go_ret
   exact⟨rfl,hx.out⟩
theorem lY {n c d:Nat}(hl:V7 w A n c ls)(hl':V7 w B n d ls):
 Calls Tryz.prog 21 #[.slice A n c,.slice B n d] w fun e w'=>e=.returned (.bool true)∧Al w w':=by
 have HE:=A4 (sG hl hl');clear hl hl';go_enter Tryz.func21,Tryz.ntmps21
 go_wp2_with fail
 refine HE.out.mono ?_
 rintro e w1 ⟨rfl,he1⟩;clear HE;go_wp2_with fail
 go_ret
 exact⟨rfl,he1⟩
def Ny (rs:Nat→List Int)(k:Int):List Int:=match F6 k with|none=>[]|some (i,_)=>rs i
def La (rs:Nat→List Int)(k:Int):Int:=match F6 k with|none=>9|some (i,_)=>if(rs i).length=0 then 6 else 0
theorem rX (rs:Nat→List Int)(k:Int):La rs k=0∨La rs k=6∨La rs k=9:=by
 unfold La;split
 ·exact .inr (.inr rfl)
 ·split
  ·exact .inr (.inl rfl)
  ·exact .inl rfl
theorem dB (hr:Ka w cs rs):
 Calls Tryz.prog 144 #[.agg cs,.int .i64 k] w fun e w'=>∃B n d,e=.returned (.tuple #[.slice B n d,.int .i64 (La rs k)])∧Av w' w.heap.size B n d (Ny rs k)∧(B=none→d=0)∧Al w w':=by
 cases h:F6 k with
 |none=>
  have e1:La rs k=9:=by unfold La;rw[h]
  have e2:Ny rs k=[]:=by unfold Ny;rw[h]
  rw[e1,e2];have HN:=fun w=>A4 (Vt w h)
  clear h e1 e2 hr;go_enter Tryz.func144,Tryz.ntmps144
  go_wp2_with fail
  refine((HN _).out).mono ?_
  rintro e w1 ⟨rfl,rfl⟩;clear HN;go_wp2_with fail
  go_ret2
  exact⟨none,0,0,rfl,Av.nil _ _,fun _=>rfl,Al.alloc _ _⟩
 |some p=>
  obtain⟨i,m⟩:=p;have e1:La rs k=if(rs i).length=0 then 6 else 0:=by unfold La;rw[h]
  have e2:Ny rs k=rs i:=by unfold Ny;rw[h]
  rw[e1,e2];have HN:=fun w=>A4 (Rf w h)
  have hi:=Tt h;obtain⟨v,hv,B,q,d,rfl,hI,hB,hq⟩:=hr.2 i hi;have hql:=hI.len;have HC:=A4 (Cy (hI.ext (Al.alloc w (.cells cs 40))) hB hq);have hqm:q≤9223372036854775807:=by omega
  rw[hql];have HL:=A4 hql;clear h e1 e2 hr hI hB hql;by_cases h0:q=0
  ·subst h0
   go_enter Tryz.func144,Tryz.ntmps144
   go_wp2_with fail
   refine((HN _).out).mono ?_
   rintro e w1 ⟨rfl,rfl⟩;clear HN;go_wp2_with fail
   go_ret2
   exact⟨none,0,0,rfl,by rw[List.eq_nil_of_length_eq_zero HL.out];exact Av.nil _ _,fun _=>rfl,Al.alloc _ _⟩
  ·have hqp:0<q:=by omega
   rw[if_neg h0];clear h0;go_enter Tryz.func144,Tryz.ntmps144
   go_wp2_with fail
   refine((HN _).out).mono ?_
   rintro e w1 ⟨rfl,rfl⟩;clear HN;go_wp2_with fail
   refine HC.out.mono ?_
   rintro e w2 ⟨B2,d2,rfl,hO,hB2,he⟩;clear HC;go_wp2_with fail
   go_ret2
   exact⟨B2,q,d2,rfl,Ay.lower hO (by simp),hB2,(Al.alloc _ _).trans he⟩
theorem Zw {cs ds:Array Value}(hc:Ka w cs rs)(hd:Ka w ds rs):
 Calls Tryz.prog 20 #[.agg cs,.agg ds] w fun e w'=>e=.returned (.bool true)∧Al w w':=by
 have HC:=A4 hc;have HD:=A4 hd;clear hc hd;have hb1:Hid (An ((w.alloc (.cells cs 40)).alloc (.cells ds 40)) w.heap.size 40 cs):=A4 ((An.new w _ cs).ext (Al.alloc _ _));have hb2:Hid (An ((w.alloc (.cells cs 40)).alloc (.cells ds 40)) (w.heap.size+1) 40 ds):=A4 (by
  have:=An.new (w.alloc (.cells cs 40)) 40 ds
  rwa[World.size_alloc]at this)
 have hE:Hid (Al w ((w.alloc (.cells cs 40)).alloc (.cells ds 40))):=A4 ((Al.alloc _ _).to_alloc _);go_enter Tryz.func20,Tryz.ntmps20
 go_wp2_with fail
 go_loopw [6] (fun s6 wx=>∃i:Nat,i≤27∧s6=.int .i64 i∧Hid (An wx w.heap.size 40 cs)∧Hid (An wx (w.heap.size+1) 40 ds)∧Hid (Al w wx)) (fun s6 _=>27-(intOf s6).toNat)
 case atStart=>exact⟨0,by omega,rfl,hb1,hb2,hE⟩
 case round=>
  clear hb1 hb2 hE;obtain⟨i,hi,rfl,Hb1,Hb2,He⟩:=hrel;by_cases hlt:i<27
  ·obtain⟨v1,hv1,A1,n1,c1,rfl,hI1,_,_⟩:=HC.out.2 i hlt
   obtain⟨v2,hv2,A2,n2,c2,rfl,hI2,_,_⟩:=HD.out.2 i hlt;have k1:wr.cell? ⟨w.heap.size,i,none⟩=some (.slice A1 n1 c1):=by rw[Hb1.out.cell i,hv1]
   have k2:wr.cell? ⟨w.heap.size+1,i,none⟩=some (.slice A2 n2 c2):=by rw[Hb2.out.cell i,hv2]
   have HQ:Hid (∀q,Calls Tryz.prog 9 #[.slice A1 n1 c1,.slice A2 n2 c2] (wr.drewN q) fun e w'=>e=.returned (.bool true)∧∃k,w'=(wr.drewN q).drewN k):=A4 fun q=>by
    have h:=Zd ((hI1.ext He.out).ext (Al.drewN wr q)) ((hI2.ext He.out).ext (Al.drewN wr q))
    rwa[Lf.2 rfl]at h
   clear hv1 hv2 hI1 hI2;go_wp2_with fail
   go_quiet ((go_at_call 9;exact cA (HQ.out _)))
   go_wp2_with fail
   go_roundw
   case rel=>exact⟨i+1,by omega,by go_num,A4 (Hb1.out.drewN _),A4 (Hb2.out.drewN _),A4 (He.out.to_drewN _)⟩
   case measure=>simp[intOf];omega
  ·obtain rfl:i=27:=by omega
   have HX:=He.out;clear Hb1 Hb2 He;go_wp2_with fail
   go_ret
   exact⟨rfl,HX⟩
end
