/-
  Part ZRegQ.
-/
import Derived.Test.YtkaefdmhlmlhbaaGreatZHisC
import Derived.Deep.WholeRow
import Derived.Deep.DeepCutAuto
import Derived.Deep.CutRange
set_option maxRecDepth 100000
set_option maxHeartbeats 16000000
set_option linter.unusedVariables false
set_option linter.unusedSimpArgs false
namespace Go.Proofs.YtkaefdmhlmlhbaaGreat
open Go.RowKit
open _root_.Go.Proofs.Tryz
open _root_.Array renaming getElem?_eq_none→Tg,getElem?_setIfInBounds_ne→Dl
open Value renaming int→Av,slice→Ak
open _root_.Nat renaming le_refl→Aj,le_trans→Ar,lt_or_ge→Ay
open _root_.List renaming getElem?_append_left→Bs,getElem?_append_right→Bx
section
variable {w:World}{v:Value}{now p:List Int}{N A T0:Option Addr}{h:Hi}{q y base e z n c t0 z0:Nat}{cs:Array Value}{k:Int}{xs:List Value}{rs:Nat→List Int}{older:Bool}
theorem Bd.setCell_ne (h:Bd w base e z A n c xs){p:Addr}(hp:(Ak A n c).ownBlock≠some p.block)(u:Value):Bd (w.setCell p u) base e z A n c xs:=by
 obtain⟨h1,h2⟩:=h;refine⟨h1,?_⟩
 rcases h2 with h2|⟨g',cap,cur,hv,hb,cr,r⟩
 ·exact .inl h2
 ·refine .inr ⟨g',cap,cur,hv,hb,?_,r⟩
  rw[hv]at hp;have ai:p.block≠g':=fun e=>hp (by rw[e];rfl)
  unfold World.setCell;rw[Array.getElem?_modify,if_neg ai];exact cr
theorem Bl.setCell_ne {b:Nat}{l:List Int}(h:Bl w b v l){p:Addr}(hp:v.ownBlock≠some p.block)(u:Value):Bl (w.setCell p u) b v l:=by
 obtain⟨A,n,c,rfl,h1,h2,h3⟩:=h;exact⟨A,n,c,rfl,Bd.setCell_ne h1 hp u,h2,h3⟩
theorem Bl.kept {w w':World}{b:Nat}{l:List Int}(h:Bl w b v l){row:Option Nat}(hg:w.grownBy w' row)(ai:∀g,v.ownBlock=some g→row≠some g):Bl w' b v l:=by
 obtain⟨A,n,c,rfl,h1,h2,h3⟩:=h;refine⟨A,n,c,rfl,Bd.kept h1 hg ?_,h2,h3⟩
 cases ho:(Ak A n c).ownBlock with
 |none=>exact .inl rfl
 |some g=>exact .inr (fun e=>ai g ho e.symm)
def Tf (w:World)(b g:Nat)(ds:Array Value)(rs:Nat→List Int):Prop:=Fd w b ds rs∧Aq w g 38 ds∧∀j k,Pc ds j=some k→k≠g
def qX (rs:Nat→List Int)(i:Nat)(l:List Int):Nat→List Int:=fun j=>if j=i then l else rs j
section
variable {w w':World} {b g:Nat} {ds:Array Value} {rs:Nat→List Int}
theorem Tf.ext (h:Tf w b g ds rs)(he:An w w'):Tf w' b g ds rs:=⟨h.1.ext he,Aq.ext h.2.1 he,h.2.2⟩
theorem Qf {ds:Array Value}{j:Nat}{v:Value}(h:ds[j]? = some v):Pc ds j=v.ownBlock:=by unfold Pc;rw[h];rfl
theorem Tf.store (h:Tf w b g ds rs){i:Nat}{v:Value}{l:List Int}(hv:Bl w b v l)(ai:v.ownBlock≠some g)(hi:i<27):Tf (w.setCell ⟨g,i,none⟩ v) b g (ds.setIfInBounds i v) (qX rs i l):=by
 refine⟨⟨by simpa using h.1.1,fun j hj=>?_⟩,h.2.1.set_ i v,fun j k hk=>?_⟩
 ·unfold qX
  by_cases ig:j=i
  ·exact I68
  ·obtain⟨u,h1,h2⟩:=h.1.2 j hj
   exact⟨u,by rw[Dl (fun e=>ig e.symm)];exact h1,by rw[if_neg ig];exact h2.setCell_ne (fun e=>h.2.2 j g (by rw[Qf h1];exact e) rfl) _⟩
 ·exact I53
theorem Tf.put (h:Tf w b g ds rs)(ha:Vp ds 27){i:Nat}{v:Value}{l:List Int}(hg:w.grownBy w' (Pc ds i))(hv:Bl w' b v l)(ai:v.ownBlock≠some g)(hi:i<27):Tf (w'.setCell ⟨g,i,none⟩ v) b g (ds.setIfInBounds i v) (qX rs i l):=by
 have hB:Aq w' g 38 ds:=h.2.1.grown hg (fun e=>h.2.2 i g e.symm rfl)
 refine⟨⟨by simpa using h.1.1,fun j hj=>?_⟩,hB.set_ i v,fun j k hk=>?_⟩
 ·unfold qX
  by_cases ig:j=i
  ·exact I68
  ·obtain⟨u,h1,h2⟩:=h.1.2 j hj
   have hk:=h2.kept hg (fun k hk hi'=>ha j i k hj hi ig (by rw[Qf h1];exact hk) hi')
   exact⟨u,by rw[Dl (fun e=>ig e.symm)];exact h1,by rw[if_neg ig];exact hk.setCell_ne (fun e=>h.2.2 j g (by rw[Qf h1];exact e) rfl) _⟩
 ·exact I53
theorem Tf.blk (h:Tf w b g ds rs){j k:Nat}(hj:j<27)(hk:Pc ds j=some k):b≤k∧k<w.heap.size:=by
 obtain⟨u,h1,h2⟩:=h.1.2 j hj;rw[Qf h1]at hk;exact h2.blk k hk
end
theorem Bd.nocap (h:Bd w base e z A n c xs):A=none→c=0:=by
 exact I87
def Lm (rs:Nat→List Int)(i:Nat)(m:Bool)(text:List Int):Nat→List Int:=
 qX (qX rs i (if m=true then rs i++text else text)) 0 (if m=true then rs i++text else text)
def rF (w':World)(b:Nat)(ds:Array Value)(rs:Nat→List Int):Prop:=
 Fd w' b ds rs∧∃g0,(∀j k,1≤j→j<27→Pc ds j=some k→k<g0)∧∀k,Pc ds 0=some k→g0≤k
theorem J3k {n c:Nat}{text:List Int}{i:Nat}{m:Bool}
 (hr:Lp w cs rs) (ht:Bj w A n c text) (hA:A=none→c=0) (h:Gb k=some (i,m)) (hb:¬Ho rs i m text):
 Calls prog 148 #[.agg cs,.int .i64 k,.slice A n c] w fun e w'=>∃ds,e=.returned (.tuple #[.agg ds,(0:Int)])∧rF w' w.heap.size ds (Lm rs i m text)∧An w w':=by
 obtain⟨i0,bT,bm,bz,az⟩:=info_parts Cd;have HN:=fun w=>A6 (U1 w h)
 have hi:=Wm h;obtain⟨v,hv,B,q,d,rfl,hI,hB,hq⟩:=hr.2 i hi;have EC:=ht.len;have dr:=hI.len;unfold Ho at hb;rw[EC,dr]at hb;obtain⟨H1,H2,H3⟩:=Rh w cs 38;have h1:=A6 H1;have h2:=A6 H2;have h3:=A6 H3;have kw:n≤200:=by omega
 have hx:m=true→q+n≤200:=fun e=>by
  rcases Nat.lt_or_ge 200 (q+n)with h|h
  ·exact absurd (.inr ⟨e,h⟩) hb
  ·exact h
 have SF:q≤9223372036854775807:=by omega
 have HC:=A6 (pO (hr.ext H3));have HT:=A6 (ht.ext H3);have HS:=A6 hr.1;have HL:=A6 dr;clear h H1 H2 H3 hr ht EC dr hI hb hB hq;cases m with
 |true=>
  have bt:q+n≤200:=hx rfl;have bg:(q:Int)≤200-n:=by omega
  clear hx;go_enter func148,ntmps148
  go_wp2_with fail
  refine((HN _).out).mono ?_
  rintro e w1 ⟨rfl,rfl⟩;clear HN;go_wp2_with (refine wpList_load_row rfl 38 (.tmp 3) rfl w.heap.size rfl 38 cs (0,0) _ h1.out underlying38 rfl (De HS.out) ?_)
  refine HC.out.mono ?_
  rintro e w1 ⟨ds,rfl,hO,xi,aj⟩;have au:=h3.out.trans aj;have BL:((w.alloc (.cells cs 38)).alloc (.cells Cb 38)).heap.size=w.heap.size+2:=by simp
  rw[BL]at hO;have cb:w.heap.size+2≤w1.heap.size:=by have:=aj.hsize;rw[BL]at this;exact this
  have B6:=A6 ((Aq.ext h2.out aj).ext (An.alloc w1 (.cells Cb 38)));have B11:=A6 (Aq.new w1 38 Cb);have tz:=A6 hO.1;have cm:=A6 hO.regs.one;have BT:Cb.size=ds.size:=by rw[tz.out];rfl
  have HI:Hid (Tf ((w1.alloc (.cells Cb 38)).setRow w1.heap.size ds) (w.heap.size+2) w1.heap.size ds rs):=A6 (by
   rw[World.setRow_alloc_new];refine⟨hO.ext (An.alloc _ _),Aq.new _ _ _,fun j k hk=>?_⟩
   by_cases hj:j<27
   ·exact I114
   ·unfold Pc at hk
    rw[Tg (by rw[tz.out];omega)]at hk
    cases hk)
  have HX:Hid (An w ((w1.alloc (.cells Cb 38)).setRow w1.heap.size ds)):=A6 ((au.to_alloc _).setRow (by omega) _)
  have CZ:Hid (Bj ((w1.alloc (.cells Cb 38)).setRow w1.heap.size ds) A n c text):=A6 ((HT.out.ext aj).ext (by
   rw[World.setRow_alloc_new];exact An.alloc _ _))
  have HB:Hid (Aq ((w1.alloc (.cells Cb 38)).setRow w1.heap.size ds) (w.heap.size+1) 38 Cb):=A6 (B6.out.setRow_other ds (by omega))
  have ED:=A6 xi;clear HC h1 h2 h3 aj au hO xi BL HT HS hv B6;go_upto_if 40 with(refine wpList_store_row rfl 38 (.tmp 11) (.tmp 39) rfl w1.heap.size ds rfl rfl 38 Cb B11.out (De tz.out) BT cm.out ?_)
  clear B11 cm BT;have dl:w1.heap.size<((w1.alloc (.cells Cb 38)).setRow w1.heap.size ds).heap.size:=by simp
  change Code.wp _ _ _ _ ((w1.alloc (.cells Cb 38)).setRow w1.heap.size ds);generalize (w1.alloc (.cells Cb 38)).setRow w1.heap.size ds=W at*;generalize w1.heap.size=g at*;obtain⟨v2,rf,B2,q2,d2,rfl,db,ko,bf⟩:=HI.out.1.2 i hi;obtain rfl:q2=q:=by have:=db.ints.len;rw[HL.out]at this;omega
  have c2:W.cell? ⟨g,i,none⟩=some (.slice B2 q2 d2):=by rw[HI.out.2.1.cell i,rf]
  have hx:=HX.out;have ak:=Qf rf;go_wp2_with (at_builtin;refine Eh rfl (.tmp 44) (.tmp 45) 25 rfl w (w.heap.size+2) 3 i0 (.int .i64 0) 1 8 underlying25 bT bm bz az rfl (by decide) B2 q2 d2 ((rs i).map (Av .i64)) rfl db A n c (text.map (Av .i64)) rfl CZ.out CZ.out.one ?_ ?_ hx (by omega) (by omega) ?_)
  ·unfold maxLen;omega
  ·omega
  ·intro A2 e2 w3 k1 k2 k3 k4
   have ui:Bl w3 (w.heap.size+2) (.slice A2 (q2+n) e2) (rs i++text):=⟨A2,q2+n,e2,rfl,by have:=k1;rw[←List.map_append]at this;exact this,Bd.nocap k1,by omega⟩
   have ai:(Ak A2 (q2+n) e2).ownBlock≠some g:=by
    intro e;rcases k3 with k3|k3
    ·rw[k3]at e;exact HI.out.2.2 i g (by rw[ak];exact e) rfl
    ·rw[k3]at e;injection e with e;omega
   have nr:=A6 (HI.out.put ED.out (i:=i) (by rw[ak];exact k2) ui ai hi)
   have im:=A6 (k4.setCell (p:=⟨g,i,none⟩) (show w.heap.size≤g by omega) (.slice A2 (q2+n) e2))
   have eh:=A6 (Bn (HB.out.grown k2 (fun e=>by have:=(Bd.blk db _ e.symm).1;omega)) (show g≠w.heap.size+1 by omega) i (.slice A2 (q2+n) e2))
   have BU:Aq w3 g 38 ds:=HI.out.2.1.grown k2 (fun e=>HI.out.2.2 i g (by rw[ak];exact e.symm) rfl)
   have c3:w3.cell? ⟨g,i,none⟩=some (.slice B2 q2 d2):=by rw[BU.cell i,rf]
   have f3:=BU.frozen i;have iu:g<w3.heap.size:=BU.lt;clear k1 k2 k3 k4 ui ai BU HI HX HB db ko bf rf c2 hx ak CZ ED;go_upto_region 10 with fail
   clear c3 f3;have nd:g<(w3.setCell ⟨g,i,none⟩ (.slice A2 (q2+n) e2)).heap.size:=by simpa using iu
   generalize w3.setCell ⟨g,i,none⟩ (.slice A2 (q2+n) e2)=W2 at*;generalize ds.setIfInBounds i (.slice A2 (q2+n) e2)=ds2 at*;obtain⟨v3,ui,B3,q3,d3,rfl,cv,ir,jq⟩:=nr.out.1.2 i hi;have c3:W2.cell? ⟨g,i,none⟩=some (.slice B3 q3 d3):=by rw[nr.out.2.1.cell i,ui]
   have lu:=A6 (Dj cv.ints ir jq);have fc:qX rs i (rs i++text) i=(rs i++text):=by unfold qX;rw[if_pos rfl]
   rw[fc]at lu;have hdz:ds2.size=27:=nr.out.1.1;clear ui cv ir fc;go_wp2_with fail
   refine lu.out.mono ?_
   rintro e w5 ⟨B4,d4,rfl,fd,xo,ft⟩;have ye:=A6 (nr.out.ext ft);have qx:=A6 (im.out.trans ft);have mp:=A6 (Aq.ext eh.out ft);have vn:Bl w5 (w.heap.size+2) (.slice B4 q3 d4) (rs i++text):=⟨B4,q3,d4,rfl,Bd.lower fd (by omega),xo,jq⟩
   have yf:(Ak B4 q3 d4).ownBlock≠some g:=fun e=>by have:=(Bd.blk fd g e).1;omega
   have zi:=A6 (ye.out.store (i:=0) vn yf (by omega))
   have HP:Hid (rF (w5.setCell ⟨g,0,none⟩ (.slice B4 q3 d4)) (w.heap.size+2) (ds2.setIfInBounds 0 (.slice B4 q3 d4)) (Lm rs i true text)):=A6 (by
    refine⟨zi.out.1,W2.heap.size,fun j k h1 h2 hk=>?_,fun k hk=>?_⟩
    ·exact I137
    ·rw[J1 (by omega)]at hk
     exact(Bd.blk fd k hk).1)
   have dv:=A6 (qx.out.setCell (p:=⟨g,0,none⟩) (show w.heap.size≤g by omega) (.slice B4 q3 d4))
   have px:=A6 (Bn mp.out (show g≠w.heap.size+1 by omega) 0 (.slice B4 q3 d4))
   obtain⟨v0,EE,_⟩:=ye.out.1.2 0 (by omega)
   have c0:w5.cell? ⟨g,0,none⟩=some v0:=by rw[ye.out.2.1.cell 0,EE]
   have f0:=ye.out.2.1.frozen 0;clear lu fd xo ft vn yf nr im eh ye qx mp EE c3;go_upto_region 11 with fail
   clear c0 f0;generalize w5.setCell ⟨g,0,none⟩ (.slice B4 q3 d4)=W6 at*;have vm:(ds2.setIfInBounds 0 (.slice B4 q3 d4)).size=27:=zi.out.1.1;have DA:(ds2.setIfInBounds 0 (.slice B4 q3 d4)).all (·.oneCell')=true:=zi.out.1.regs.one;generalize ds2.setIfInBounds 0 (.slice B4 q3 d4)=ds3 at*;have LK:Cb.size=ds3.size:=by rw[vm];rfl
   have HG:=A6 zi.out.2.1;have dp:=px.out.setRow ds3;have HE:Hid (rF (W6.setRow (w.heap.size+1) ds3) w.heap.size ds3 (Lm rs i true text)):=A6 ⟨(HP.out.1.setRow (show w.heap.size+1<w.heap.size+2 by omega) ds3).lower (by omega),HP.out.2⟩
   exact I11
 |false=>
  clear hx;go_enter func148,ntmps148
  go_wp2_with fail
  refine((HN _).out).mono ?_
  rintro e w1 ⟨rfl,rfl⟩;clear HN;go_wp2_with (refine wpList_load_row rfl 38 (.tmp 3) rfl w.heap.size rfl 38 cs (0,0) _ h1.out underlying38 rfl (De HS.out) ?_)
  refine HC.out.mono ?_
  rintro e w1 ⟨ds,rfl,hO,xi,aj⟩;have au:=h3.out.trans aj;have BL:((w.alloc (.cells cs 38)).alloc (.cells Cb 38)).heap.size=w.heap.size+2:=by simp
  rw[BL]at hO;have cb:w.heap.size+2≤w1.heap.size:=by have:=aj.hsize;rw[BL]at this;exact this
  have B6:=A6 ((Aq.ext h2.out aj).ext (An.alloc w1 (.cells Cb 38)));have B11:=A6 (Aq.new w1 38 Cb);have tz:=A6 hO.1;have cm:=A6 hO.regs.one;have BT:Cb.size=ds.size:=by rw[tz.out];rfl
  have HI:Hid (Tf ((w1.alloc (.cells Cb 38)).setRow w1.heap.size ds) (w.heap.size+2) w1.heap.size ds rs):=A6 (by
   rw[World.setRow_alloc_new];refine⟨hO.ext (An.alloc _ _),Aq.new _ _ _,fun j k hk=>?_⟩
   by_cases hj:j<27
   ·exact I114
   ·unfold Pc at hk
    rw[Tg (by rw[tz.out];omega)]at hk
    cases hk)
  have HX:Hid (An w ((w1.alloc (.cells Cb 38)).setRow w1.heap.size ds)):=A6 ((au.to_alloc _).setRow (by omega) _)
  have CZ:Hid (Bj ((w1.alloc (.cells Cb 38)).setRow w1.heap.size ds) A n c text):=A6 ((HT.out.ext aj).ext (by
   rw[World.setRow_alloc_new];exact An.alloc _ _))
  have HB:Hid (Aq ((w1.alloc (.cells Cb 38)).setRow w1.heap.size ds) (w.heap.size+1) 38 Cb):=A6 (B6.out.setRow_other ds (by omega))
  have ED:=A6 xi;clear HC h1 h2 h3 aj au hO xi BL HT HS hv B6;go_upto_if 40 with(refine wpList_store_row rfl 38 (.tmp 11) (.tmp 39) rfl w1.heap.size ds rfl rfl 38 Cb B11.out (De tz.out) BT cm.out ?_)
  clear B11 cm BT;have dl:w1.heap.size<((w1.alloc (.cells Cb 38)).setRow w1.heap.size ds).heap.size:=by simp
  change Code.wp _ _ _ _ ((w1.alloc (.cells Cb 38)).setRow w1.heap.size ds);generalize (w1.alloc (.cells Cb 38)).setRow w1.heap.size ds=W at*;generalize w1.heap.size=g at*;have HCT:=A6 (Dj CZ.out hA (by omega))
  obtain⟨v2,rf,_⟩:=HI.out.1.2 i hi;go_wp2_with fail
  refine HCT.out.mono ?_
  rintro e w3 ⟨A2,e2,rfl,k1,k2,k3⟩;have ui:Bl w3 (w.heap.size+2) (.slice A2 n e2) text:=⟨A2,n,e2,rfl,Bd.lower k1 (by omega),k2,by omega⟩
  have ai:(Ak A2 n e2).ownBlock≠some g:=fun e=>by have:=(Bd.blk k1 g e).1;omega
  have nr:=A6 ((HI.out.ext k3).store (i:=i) ui ai hi);have im:=A6 ((HX.out.trans k3).setCell (p:=⟨g,i,none⟩) (show w.heap.size≤g by omega) (.slice A2 n e2))
  have eh:=A6 (Bn (Aq.ext HB.out k3) (show g≠w.heap.size+1 by omega) i (.slice A2 n e2))
  have BU:Aq w3 g 38 ds:=Aq.ext HI.out.2.1 k3;have c3:w3.cell? ⟨g,i,none⟩=some v2:=by rw[BU.cell i,rf]
  have f3:=BU.frozen i;have iu:g<w3.heap.size:=BU.lt;clear k1 k2 k3 ui ai BU HI HX HB rf CZ HCT ED;go_upto_region 10 with fail
  clear c3 f3;have nd:g<(w3.setCell ⟨g,i,none⟩ (.slice A2 n e2)).heap.size:=by simpa using iu
  generalize w3.setCell ⟨g,i,none⟩ (.slice A2 n e2)=W2 at*;generalize ds.setIfInBounds i (.slice A2 n e2)=ds2 at*;obtain⟨v3,ui,B3,q3,d3,rfl,cv,ir,jq⟩:=nr.out.1.2 i hi;have c3:W2.cell? ⟨g,i,none⟩=some (.slice B3 q3 d3):=by rw[nr.out.2.1.cell i,ui]
  have lu:=A6 (Dj cv.ints ir jq);have fc:qX rs i text i=text:=by unfold qX;rw[if_pos rfl]
  rw[fc]at lu;have hdz:ds2.size=27:=nr.out.1.1;clear ui cv ir fc;go_wp2_with fail
  refine lu.out.mono ?_
  rintro e w5 ⟨B4,d4,rfl,fd,xo,ft⟩;have ye:=A6 (nr.out.ext ft);have qx:=A6 (im.out.trans ft);have mp:=A6 (Aq.ext eh.out ft);have vn:Bl w5 (w.heap.size+2) (.slice B4 q3 d4) text:=⟨B4,q3,d4,rfl,Bd.lower fd (by omega),xo,jq⟩
  have yf:(Ak B4 q3 d4).ownBlock≠some g:=fun e=>by have:=(Bd.blk fd g e).1;omega
  have zi:=A6 (ye.out.store (i:=0) vn yf (by omega))
  have HP:Hid (rF (w5.setCell ⟨g,0,none⟩ (.slice B4 q3 d4)) (w.heap.size+2) (ds2.setIfInBounds 0 (.slice B4 q3 d4)) (Lm rs i false text)):=A6 (by
   refine⟨zi.out.1,W2.heap.size,fun j k h1 h2 hk=>?_,fun k hk=>?_⟩
   ·exact I137
   ·rw[J1 (by omega)]at hk
    exact(Bd.blk fd k hk).1)
  have dv:=A6 (qx.out.setCell (p:=⟨g,0,none⟩) (show w.heap.size≤g by omega) (.slice B4 q3 d4))
  have px:=A6 (Bn mp.out (show g≠w.heap.size+1 by omega) 0 (.slice B4 q3 d4))
  obtain⟨v0,EE,_⟩:=ye.out.1.2 0 (by omega)
  have c0:w5.cell? ⟨g,0,none⟩=some v0:=by rw[ye.out.2.1.cell 0,EE]
  have f0:=ye.out.2.1.frozen 0;clear lu fd xo ft vn yf nr im eh ye qx mp EE c3;go_upto_region 11 with fail
  clear c0 f0;generalize w5.setCell ⟨g,0,none⟩ (.slice B4 q3 d4)=W6 at*;have vm:(ds2.setIfInBounds 0 (.slice B4 q3 d4)).size=27:=zi.out.1.1;have DA:(ds2.setIfInBounds 0 (.slice B4 q3 d4)).all (·.oneCell')=true:=zi.out.1.regs.one;generalize ds2.setIfInBounds 0 (.slice B4 q3 d4)=ds3 at*;have LK:Cb.size=ds3.size:=by rw[vm];rfl
  have HG:=A6 zi.out.2.1;have dp:=px.out.setRow ds3;have HE:Hid (rF (W6.setRow (w.heap.size+1) ds3) w.heap.size ds3 (Lm rs i false text)):=A6 ⟨(HP.out.1.setRow (show w.heap.size+1<w.heap.size+2 by omega) ds3).lower (by omega),HP.out.2⟩
  exact I11
def toS (h:Hi)(now:List Int):List Int:=if h.at_=(h.lines.length:Int)then now else h.scratch
def toH (h:Hi)(now:List Int)(k:Nat):Hi:=⟨h.lines,h.most,k,toS h now,h.pattern,h.older⟩
def toL (h:Hi)(now:List Int)(k:Nat):List Int:=if k=h.lines.length then toS h now else gL h.lines k
theorem lS {w w':World}{g:Nat}{a b c d e f:Value}(he:An w w')(h:w.cell? ⟨g,0,none⟩=some a∧w.cell? ⟨g,1,none⟩=some b∧w.cell? ⟨g,2,none⟩=some c∧w.cell? ⟨g,3,none⟩=some d∧w.cell? ⟨g,4,none⟩=some e∧w.cell? ⟨g,5,none⟩=some f):
 w'.cell? ⟨g,0,none⟩=some a∧w'.cell? ⟨g,1,none⟩=some b∧w'.cell? ⟨g,2,none⟩=some c∧w'.cell? ⟨g,3,none⟩=some d∧w'.cell? ⟨g,4,none⟩=some e∧w'.cell? ⟨g,5,none⟩=some f:=
 ⟨he.cell h.1,he.cell h.2.1,he.cell h.2.2.1,he.cell h.2.2.2.1,he.cell h.2.2.2.2.1,he.cell h.2.2.2.2.2⟩
theorem Et {g t:Nat}(h:Aq w g t cs):w.frozen? ⟨g,0,none⟩=false∧w.frozen? ⟨g,1,none⟩=false∧w.frozen? ⟨g,2,none⟩=false∧w.frozen? ⟨g,3,none⟩=false∧w.frozen? ⟨g,4,none⟩=false∧w.frozen? ⟨g,5,none⟩=false:=
 ⟨h.frozen 0,h.frozen 1,h.frozen 2,h.frozen 3,h.frozen 4,h.frozen 5⟩
def Eb:Array Value:=#[.slice none 0 0,.int .i64 0,.int .i64 0,.slice none 0 0,.slice none 0 0,.bool false]
def Rr (w:World)(g:Nat)(a b c d e f:Value):World:=(((((w.setCell ⟨g,0,none⟩ a).setCell ⟨g,1,none⟩ b).setCell ⟨g,2,none⟩ c).setCell ⟨g,3,none⟩ d).setCell ⟨g,4,none⟩ e).setCell ⟨g,5,none⟩ f
theorem Fp {g t:Nat}{a' b' c' d' e' f':Value}(h:Aq w g t #[a',b',c',d',e',f'])(a b c d e f:Value):Aq (Rr w g a b c d e f) g t #[a,b,c,d,e,f]:=
 (((((h.set_ 0 a).set_ 1 b).set_ 2 c).set_ 3 d).set_ 4 e).set_ 5 f
theorem Fo {w0 w:World}{g:Nat}(h:An w0 w)(hg:w0.heap.size≤g)(a b c d e f:Value):An w0 (Rr w g a b c d e f):=
 (((((h.setCell (p:=⟨g,0,none⟩) hg a).setCell (p:=⟨g,1,none⟩) hg b).setCell (p:=⟨g,2,none⟩) hg c).setCell (p:=⟨g,3,none⟩) hg d).setCell (p:=⟨g,4,none⟩) hg e).setCell (p:=⟨g,5,none⟩) hg f
theorem Jt {g base e' z n cc:Nat}(h:Bd w base e' z A n cc xs)(hg:g<base)(a b c d e f:Value):Bd (Rr w g a b c d e f) base e' z A n cc xs:=
 (((((h.setCell (p:=⟨g,0,none⟩) hg a).setCell (p:=⟨g,1,none⟩) hg b).setCell (p:=⟨g,2,none⟩) hg c).setCell (p:=⟨g,3,none⟩) hg d).setCell (p:=⟨g,4,none⟩) hg e).setCell (p:=⟨g,5,none⟩) hg f
theorem J2 {g base:Nat}(hh:Dp w base v h)(hg:g<base)(a b c d e f:Value):Dp (Rr w g a b c d e f) base v h:=
 (((((hh.setCell (p:=⟨g,0,none⟩) hg a).setCell (p:=⟨g,1,none⟩) hg b).setCell (p:=⟨g,2,none⟩) hg c).setCell (p:=⟨g,3,none⟩) hg d).setCell (p:=⟨g,4,none⟩) hg e).setCell (p:=⟨g,5,none⟩) hg f
theorem Ng {g base:Nat}{L v:Value}(hh:H7 w base L v h)(hg:g<base)(a b c d e f:Value):H7 (Rr w g a b c d e f) base L v h:=
 (((((hh.setCell (p:=⟨g,0,none⟩) hg a).setCell (p:=⟨g,1,none⟩) hg b).setCell (p:=⟨g,2,none⟩) hg c).setCell (p:=⟨g,3,none⟩) hg d).setCell (p:=⟨g,4,none⟩) hg e).setCell (p:=⟨g,5,none⟩) hg f
theorem Ej {P:Program}{fn:Func}{p q r:Tmp}{ty:TypeId}(h:fn.results=#[.cell p ty,.tmp q,.tmp r])(tmps:Array Value)(w:World)(g:Nat)(t:TypeId)(cs:Array Value)(fr:Nat×Nat)(d:TypeDesc)(v u:Value)
 (hp:tmps.getD p undef=.pointer (some ⟨g,0,none⟩)) (hq:tmps.getD q undef=v) (hr:tmps.getD r undef=u) (hg:w.heap[g]? = some (.cells cs t fr))
 (hu:P.underlying ty=some d) (hd:(match d with|.struct _|.array _ _=>true|_=>false)=true) (hi:(P.info? ty).map (·.size)=some cs.size):
 (results fn tmps).run P w=.ok (.tuple #[.agg cs,v,u]) w:=by
 have ji:tmps[p]?.getD undef=.pointer (some ⟨g,0,none⟩):=by simpa using hp
 have py:tmps[q]?.getD undef=v:=by simpa using hq
 have AF:tmps[r]?.getD undef=u:=by simpa using hr
 simp[results,h,ji,py,AF,asAddr,run_loadVar_row w g t ty cs fr d hg hu hd hi]
theorem aX {k:Nat}(hv:My w v h)(CP:h.lines.length≤1000)(cy:Bj w N q y now)(hN:N=none→y=0)(hq:q*8≤140737488355328)(hk:k≤h.lines.length):
 Calls prog 127 #[v,.slice N q y,.int .i64 k] w fun e w'=>∃u L m z,e=.returned (.tuple #[u,.slice L m z,(0:Int)])∧Dp w' w.heap.size u (toH h now k)∧Ba w' w.heap.size L m z (toL h now k)∧(L=none→z=0)∧An w w'∧H7 w' w.heap.size (.slice L m z) u (toH h now k):=by
 have HV:=A6 hv;obtain⟨ls,mo,at_,sl,pl,ol⟩:=h;obtain⟨A,n,c,S,sn,sc,P,pn,pc,rfl,hL,hA,hS,hP⟩:=hv;have hZ:Eb=#[.slice none 0 0,.int .i64 0,.int .i64 0,.slice none 0 0,.slice none 0 0,.bool false]:=rfl;simp only at hL hS hP CP hk;have hn:=hL.len;have HL:=A6 hL;have qw:=A6 cy;have ep:n≤1000:=by omega
 rw[hn]at hk;have HN:=A6 hn;have a9:=A6 ((Aq.new w 94 (Ct A n c mo at_ S sn sc P pn pc ol)).ext (An.alloc _ (.cells Eb 94)));have al:Hid (Aq ((w.alloc (.cells (Ct A n c mo at_ S sn sc P pn pc ol) 94)).alloc (.cells Eb 94)) (w.heap.size+1) 94 Eb):=A6 (by
  have:=Aq.new (w.alloc (.cells (Ct A n c mo at_ S sn sc P pn pc ol) 94)) 94 Eb
  rwa[World.size_alloc]at this)
 have am:Hid (An w ((w.alloc (.cells (Ct A n c mo at_ S sn sc P pn pc ol) 94)).alloc (.cells Eb 94))):=A6 ((An.alloc _ _).to_alloc _);have HC:=A6 (Xp (HV.out.ext am.out) (by simp only;omega))
 have f7:Hid (((w.alloc (.cells (Ct A n c mo at_ S sn sc P pn pc ol) 94)).alloc (.cells Eb 94)).heap.size=w.heap.size+2):=A6 (by simp)
 clear hL hS hP hn cy CP;unfold Ct Eb at*;clear hZ;go_enter func127,ntmps127
 go_wp2_with fail
 refine HC.out.mono ?_
 rintro e w1 ⟨u,rfl,hO,aj⟩;rw[f7.out]at hO;obtain⟨O,n',d,S',bp,bq,P',bc,pc',rfl,ue,AT,AU⟩:=hO;unfold Ct;simp only at ue AT AU;obtain rfl:n'=n:=by rw[←ue.lns.len];exact HN.out
 have iw:w.heap.size+2≤w1.heap.size:=by have:=aj.hsize;rw[f7.out]at this;exact this
 have jl:=A6 (am.out.trans aj);have pp:=A6 (Aq.ext a9.out aj);have px:=A6 (Aq.ext al.out aj);have zn:=A6 ue;have MA:=A6 AT;have vg:=A6 AU;clear HC ue AT AU aj a9 al am f7;have un:=A6 (Aq.new w1 94 #[.slice O n' d,.int .i64 mo,.int .i64 at_,.slice S' bp bq,.slice P' bc pc',.bool ol]);have im:=A6 (An.alloc w1 (.cells #[.slice O n' d,mo,at_,.slice S' bp bq,.slice P' bc pc',ol] 94));go_upto_region 2 with fail
 change Code.wp _ _ _ _ (w1.alloc (.cells #[.slice O n' d,mo,at_,.slice S' bp bq,.slice P' bc pc',ol] 94));have oL:w1.heap.size<(w1.alloc (.cells #[.slice O n' d,mo,at_,.slice S' bp bq,.slice P' bc pc',ol] 94)).heap.size:=by simp
 generalize w1.alloc (.cells #[.slice O n' d,mo,at_,.slice S' bp bq,.slice P' bc pc',ol] 94)=W at*;generalize hg:w1.heap.size=g9 at*;obtain⟨k0,_,k2,_⟩:=Cu (Aq.ext pp.out im.out);have f93:=un.out.frozen 3;obtain⟨_,_,_,c93,_⟩:=Cu un.out;go_upto_if 17 with fail
 go_cut [] (fun wx=>∃(S2:Option Addr) (s2 z2:Nat),Hid (Aq wx g9 94 #[.slice O n' d,.int .i64 mo,.int .i64 at_,.slice S2 s2 z2,.slice P' bc pc',.bool ol])∧Hid (Bl wx (w.heap.size+2) (.slice S2 s2 z2) (toS ⟨ls,mo,at_,sl,pl,ol⟩ now))∧Hid ((Ak S2 s2 z2).ownBlock≠some g9)∧Hid (An w1 wx))
 case first=>
  by_cases gt:at_=n'
  ·have NN:=A6 (qw.out.ext (jl.out.trans im.out))
   have HC:=A6 (Dj NN.out hN hq);have wo:Hid (toS ⟨ls,mo,at_,sl,pl,ol⟩ now=now):=A6 (by unfold toS;simp only;rw[HN.out,if_pos gt])
   subst gt;go_wp2_with fail
   refine HC.out.mono ?_
   rintro e w3 ⟨B,z,rfl,FV,FW,cu⟩;have xr:=Aq.ext un.out cu;have c3:=xr.cell 3;simp only[List.getElem?_toArray,List.getElem?_cons_zero,List.getElem?_cons_succ]at c3;have f3:=xr.frozen 3;have ai:(Ak B q z).ownBlock≠some g9:=fun e=>by have:=(Bd.blk FV _ e).1;omega
   have R1:=A6 (xr.set_ 3 (.slice B q z));have R2:Hid (Bl (w3.setCell ⟨g9,3,none⟩ (.slice B q z)) (w.heap.size+2) (.slice B q z) (toS ⟨ls,mo,(n':Int),sl,pl,ol⟩ now)):=A6 (by
    rw[wo.out];exact Bl.setCell_ne (p:=⟨g9,3,none⟩) (show Bl w3 (w.heap.size+2) (.slice B q z) now from⟨B,q,z,rfl,Bd.lower FV (by omega),FW,hq⟩) ai _)
   have R3:=A6 ai;have R4:=A6 ((im.out.trans cu).setCell (p:=⟨g9,3,none⟩) (show w1.heap.size≤g9 by omega) (.slice B q z))
   clear HC FV FW cu xr ai k0 k2 f93 c93 wo;go_wp2_with fail
   go_meet
   exact⟨B,q,z,R1,R2,R3,R4⟩
  ·have hat2:(at_==(n':Int))=false:=by simpa using gt
   have wo:Hid (toS ⟨ls,mo,at_,sl,pl,ol⟩ now=sl):=A6 (by unfold toS;simp only;rw[HN.out,if_neg gt])
   have R2:Hid (Bl W (w.heap.size+2) (.slice S' bp bq) (toS ⟨ls,mo,at_,sl,pl,ol⟩ now)):=A6 (by rw[wo.out];exact MA.out.ext im.out)
   have R3:Hid ((Ak S' bp bq).ownBlock≠some g9):=A6 (fun e=>by have:=(MA.out.blk g9 e).2;omega)
   go_wp2_with fail
   go_meet
   exact⟨S',bp,bq,un,R2,R3,im⟩
 case rest=>
  clear un im c93 f93 k0 k2;obtain⟨S2,s2,z2,un,NO,Hne,im⟩:=hcut;have f92:=un.out.frozen 2;obtain⟨_,_,c92,_⟩:=Cu un.out;have R1:=A6 (un.out.set_ 2 (.int .i64 (k:Int)));have R2:=A6 (Bl.setCell_ne (p:=⟨g9,2,none⟩) NO.out Hne.out (.int .i64 (k:Int)));have R4:=A6 (im.out.setCell (p:=⟨g9,2,none⟩) (show w1.heap.size≤g9 by omega) (.int .i64 (k:Int)))
  have NP:g9<(wc.setCell ⟨g9,2,none⟩ (.int .i64 (k:Int))).heap.size:=R1.out.lt;go_upto_region 5 with fail
  clear un NO im c92 f92;generalize wc.setCell ⟨g9,2,none⟩ (.int .i64 (k:Int))=W2 at*;have un:Hid (Aq W2 g9 94 #[.slice O n' d,.int .i64 mo,.int .i64 (k:Int),.slice S2 s2 z2,.slice P' bc pc',.bool ol]):=A6 R1.out;clear R1;obtain⟨k0,_⟩:=Cu (Aq.ext pp.out R4.out);obtain⟨B5,n5,c5,hh5,vl,hB5,xq⟩:=R2.out;injection hh5 with h1 h2 h3;subst h1;subst h2;subst h3;by_cases jc:k=n'
  ·subst jc
   go_upto_if 27 with fail
   have JT:=Cu un.out;have fj:=lS (An.drew W2) JT;have HC:=A6 (Dj (vl.ints.ext (An.drew W2)) hB5 xq);go_upto_region 6 with fail
   obtain⟨x0,x1,x2,x3,x4,x5⟩:=fj;clear JT;go_region_law (first
    |(
     refine Kh rfl 35 #[.slice S2 s2 z2] (by kernel_rfl) (fun v w'=>∃B6 z6,v=.slice B6 s2 z6∧Ba w' W2.drew.heap.size B6 s2 z6 (toS ⟨ls,mo,at_,sl,pl,ol⟩ now)∧(B6=none→z6=0)∧An W2.drew w') (HC.out.mono fun e w' ⟨B6,z6,h1,h2⟩=>⟨_,h1,B6,z6,rfl,h2⟩) ?_
     rintro v w3 ⟨B6,z6,rfl,rj,GS,gr⟩;have y0:=gr.cell x0;have y1:=gr.cell x1;have y2:=gr.cell x2;have y3:=gr.cell x3;have y4:=gr.cell x4;have y5:=gr.cell x5;have eo:=Aq.ext (Aq.ext px.out (R4.out.trans (An.drew W2))) gr;obtain⟨d0,d1,d2,d3,d4,d5⟩:=Cu eo;obtain⟨f0,f1,f2,f3,f4,f5⟩:=Et eo))
   all_goals
    have ni:=(An.drew W2).trans gr;have cn:=A6 (Fp eo (.slice O k d) (.int .i64 mo) (.int .i64 (k:Int)) (.slice S2 s2 z2) (.slice P' bc pc') (.bool ol));have cd:w.heap.size+1<w.heap.size+2:=by omega
    have xt:Hid (Dp (Rr w3 (w.heap.size+1) (.slice O k d) (.int .i64 mo) (.int .i64 (k:Int)) (.slice S2 s2 z2) (.slice P' bc pc') (.bool ol)) w.heap.size (.agg (Ct O k d mo (k:Int) S2 s2 z2 P' bc pc' ol)) (toH ⟨ls,mo,at_,sl,pl,ol⟩ now k)):=A6
     ((
      J2 (show Dp w3 (w.heap.size+2) (.agg (Ct O k d mo (k:Int) S2 s2 z2 P' bc pc' ol)) (toH ⟨ls,mo,at_,sl,pl,ol⟩ now k)from
      ⟨O,k,d,S2,s2,z2,P',bc,pc',rfl,zn.out.ext (R4.out.trans ni),R2.out.ext ni,vg.out.ext (R4.out.trans ni)⟩) cd _ _ _ _ _ _).lower (by omega))
    have GT:Hid (H7 (Rr w3 (w.heap.size+1) (.slice O k d) (.int .i64 mo) (.int .i64 (k:Int)) (.slice S2 s2 z2) (.slice P' bc pc') (.bool ol)) w.heap.size (.slice B6 s2 z6) (.agg (Ct O k d mo (k:Int) S2 s2 z2 P' bc pc' ol)) (toH ⟨ls,mo,at_,sl,pl,ol⟩ now k)):=A6
     ((
      Ng ((H7.of (L:=.slice B6 s2 z6) (show Dp W2.drew (w.heap.size+2) (.agg (Ct O k d mo (k:Int) S2 s2 z2 P' bc pc' ol)) (toH ⟨ls,mo,at_,sl,pl,ol⟩ now k)from
      ⟨O,k,d,S2,s2,z2,P',bc,pc',rfl,zn.out.ext (R4.out.trans (An.drew W2)),R2.out.ext (An.drew W2),vg.out.ext (R4.out.trans (An.drew W2))⟩) (fun g hg=>(Bd.blk rj g hg).1)).ext gr) cd _ _ _ _ _ _).lower (by omega))
    have xu:Hid (Ba (Rr w3 (w.heap.size+1) (.slice O k d) (.int .i64 mo) (.int .i64 (k:Int)) (.slice S2 s2 z2) (.slice P' bc pc') (.bool ol)) w.heap.size B6 s2 z6 (toL ⟨ls,mo,at_,sl,pl,ol⟩ now k)):=A6 (by
     rw[show toL ⟨ls,mo,at_,sl,pl,ol⟩ now k=toS ⟨ls,mo,at_,sl,pl,ol⟩ now from by unfold toL;simp only;rw[if_pos HN.out.symm]]
     exact Bd.lower (Jt (Bd.lower rj (show w.heap.size+2≤W2.drew.heap.size from Ar (show w.heap.size+2≤g9 by omega) (Nat.le_of_lt NP))) cd _ _ _ _ _ _) (by omega))
    have nj:Hid (An w (Rr w3 (w.heap.size+1) (.slice O k d) (.int .i64 mo) (.int .i64 (k:Int)) (.slice S2 s2 z2) (.slice P' bc pc') (.bool ol))):=A6 (Fo (jl.out.trans (R4.out.trans ni)) (by omega) _ _ _ _ _ _)
    have HB:=A6 GS;clear ni eo d0 d1 d2 d3 d4 d5 f0 f1 f2 f3 f4 f5 rj GS gr;unfold Rr at cn xt xu nj;go_wp2_with fail
    refine bodyPost_ret (v:=.tuple #[.agg (Ct O k d mo (k:Int) S2 s2 z2 P' bc pc' ol),.slice B6 s2 z6,(0:Int)]) ?_ rfl ⟨_,B6,s2,z6,rfl,xt.out,xu.out,HB.out,nj.out,GT.out⟩
    exact I4
  ·have WJ:k<n':=by omega
   have IY:((k:Int)==(n':Int))=false:=by simp;omega
   go_upto_if 27 with fail
   obtain⟨ad,v,rfl,hc,B7,m7,c7,rfl,JK,VE,vp⟩:=(HL.out.ext (jl.out.trans R4.out)).at_ WJ;obtain⟨x0,x1,x2,x3,x4,x5⟩:=lS (An.drew W2) (Cu un.out);have y0':W2.drew.cell? ⟨w,0,none⟩=some (.slice (some ad) n' c):=k0;have uh:W2.drew.cell? (ad.add k)=some (.slice B7 m7 c7):=hc;have HC:=A6 (Dj (JK.ext (An.drew W2)) VE vp);clear JK;go_upto_region 7 with fail
   go_region_law (first
    |(
     refine Kh rfl 35 #[.slice B7 m7 c7] (by kernel_rfl) (fun v w'=>∃B6 z6,v=.slice B6 m7 z6∧Ba w' W2.drew.heap.size B6 m7 z6 (gL ls k)∧(B6=none→z6=0)∧An W2.drew w') (HC.out.mono fun e w' ⟨B6,z6,h1,h2⟩=>⟨_,h1,B6,z6,rfl,h2⟩) ?_
     rintro v w3 ⟨B6,z6,rfl,rj,GS,gr⟩;have y0:=gr.cell x0;have y1:=gr.cell x1;have y2:=gr.cell x2;have y3:=gr.cell x3;have y4:=gr.cell x4;have y5:=gr.cell x5;have eo:=Aq.ext (Aq.ext px.out (R4.out.trans (An.drew W2))) gr;obtain⟨d0,d1,d2,d3,d4,d5⟩:=Cu eo;obtain⟨f0,f1,f2,f3,f4,f5⟩:=Et eo))
   all_goals
    have ni:=(An.drew W2).trans gr;have cn:=A6 (Fp eo (.slice O n' d) (.int .i64 mo) (.int .i64 (k:Int)) (.slice S2 s2 z2) (.slice P' bc pc') (.bool ol));have cd:w.heap.size+1<w.heap.size+2:=by omega
    have xt:Hid (Dp (Rr w3 (w.heap.size+1) (.slice O n' d) (.int .i64 mo) (.int .i64 (k:Int)) (.slice S2 s2 z2) (.slice P' bc pc') (.bool ol)) w.heap.size (.agg (Ct O n' d mo (k:Int) S2 s2 z2 P' bc pc' ol)) (toH ⟨ls,mo,at_,sl,pl,ol⟩ now k)):=A6
     ((
      J2 (show Dp w3 (w.heap.size+2) (.agg (Ct O n' d mo (k:Int) S2 s2 z2 P' bc pc' ol)) (toH ⟨ls,mo,at_,sl,pl,ol⟩ now k)from
      ⟨O,n',d,S2,s2,z2,P',bc,pc',rfl,zn.out.ext (R4.out.trans ni),R2.out.ext ni,vg.out.ext (R4.out.trans ni)⟩) cd _ _ _ _ _ _).lower (by omega))
    have GT:Hid (H7 (Rr w3 (w.heap.size+1) (.slice O n' d) (.int .i64 mo) (.int .i64 (k:Int)) (.slice S2 s2 z2) (.slice P' bc pc') (.bool ol)) w.heap.size (.slice B6 m7 z6) (.agg (Ct O n' d mo (k:Int) S2 s2 z2 P' bc pc' ol)) (toH ⟨ls,mo,at_,sl,pl,ol⟩ now k)):=A6
     ((
      Ng ((H7.of (L:=.slice B6 m7 z6) (show Dp W2.drew (w.heap.size+2) (.agg (Ct O n' d mo (k:Int) S2 s2 z2 P' bc pc' ol)) (toH ⟨ls,mo,at_,sl,pl,ol⟩ now k)from
      ⟨O,n',d,S2,s2,z2,P',bc,pc',rfl,zn.out.ext (R4.out.trans (An.drew W2)),R2.out.ext (An.drew W2),vg.out.ext (R4.out.trans (An.drew W2))⟩) (fun g hg=>(Bd.blk rj g hg).1)).ext gr) cd _ _ _ _ _ _).lower (by omega))
    have xu:Hid (Ba (Rr w3 (w.heap.size+1) (.slice O n' d) (.int .i64 mo) (.int .i64 (k:Int)) (.slice S2 s2 z2) (.slice P' bc pc') (.bool ol)) w.heap.size B6 m7 z6 (toL ⟨ls,mo,at_,sl,pl,ol⟩ now k)):=A6 (by
     rw[show toL ⟨ls,mo,at_,sl,pl,ol⟩ now k=gL ls k from by unfold toL;simp only;rw[if_neg (by rw[HN.out];exact jc)]]
     exact Bd.lower (Jt (Bd.lower rj (show w.heap.size+2≤W2.drew.heap.size from Ar (show w.heap.size+2≤g9 by omega) (Nat.le_of_lt NP))) cd _ _ _ _ _ _) (by omega))
    have nj:Hid (An w (Rr w3 (w.heap.size+1) (.slice O n' d) (.int .i64 mo) (.int .i64 (k:Int)) (.slice S2 s2 z2) (.slice P' bc pc') (.bool ol))):=A6 (Fo (jl.out.trans (R4.out.trans ni)) (by omega) _ _ _ _ _ _)
    have HB:=A6 GS;clear ni eo d0 d1 d2 d3 d4 d5 f0 f1 f2 f3 f4 f5 rj GS gr;unfold Rr at cn xt xu nj;go_wp2_with fail
    refine bodyPost_ret (v:=.tuple #[.agg (Ct O n' d mo (k:Int) S2 s2 z2 P' bc pc' ol),.slice B6 m7 z6,(0:Int)]) ?_ rfl ⟨_,B6,m7,z6,rfl,xt.out,xu.out,HB.out,nj.out,GT.out⟩
    exact I4
theorem rT {k:Nat}(hv:My w v h)(CP:h.lines.length≤1000)(cy:Bj w N q y now)(hN:N=none→y=0)(hq:q*8≤140737488355328)(hk:k≤h.lines.length):
 Calls prog 127 #[v,.slice N q y,.int .i64 k] w fun e w'=>∃u L m z,e=.returned (.tuple #[u,.slice L m z,(0:Int)])∧Dp w' w.heap.size u (toH h now k)∧Ba w' w.heap.size L m z (toL h now k)∧(L=none→z=0)∧An w w':=
 (aX hv CP cy hN hq hk).mono fun e w' ⟨u,L,m,z,h1,h2,h3,h4,h5,_⟩=>⟨u,L,m,z,h1,h2,h3,h4,h5⟩
def Gh (h:Hi)(now:List Int)(k:Int):Prop:=¬h.bad∧¬h.long∧now.length≤200∧0≤k∧k≤999
theorem My.cells (hv:My w v h):∃A n c S sn sc P pn pc,v=.agg (Ct A n c h.most h.at_ S sn sc P pn pc h.older)∧h.lines.length=n∧n≤maxLen:=by
 obtain⟨A,n,c,S,sn,sc,P,pn,pc,rfl,hL,_⟩:=hv;exact⟨A,n,c,S,sn,sc,P,pn,pc,rfl,hL.len,Ar hL.ncap hL.nmax⟩
theorem Ta (hv:My w v h)(cy:Bj w N q y now):
 Calls prog 125 #[v,.slice N q y,.int .i64 k] w fun e w'=>∃x:Int,e=.returned (.int .i64 x)∧(x=0↔Gh h now k)∧An w w':=by
 have HV:=A6 hv;have HC:=A6 (Zk (hv.ext (An.alloc w (.cells (match v with|.agg cs=>cs|_=>#[]) 94))))
 obtain⟨A,n,c,S,sn,sc,P,pn,pc,rfl,_⟩:=hv.cells;have dr:=A6 cy.len;have hqy:=Ar cy.ncap cy.nmax;unfold maxLen at hqy;simp only at HC;clear hv cy;unfold Ct at*;go_enter func125,ntmps125
 go_wp2_with fail
 refine HC.out.mono ?_
 rintro e w1 ⟨x,rfl,DQ,aj⟩;have hx:=A6 ((An.alloc _ _).trans aj);have hk:=A6 DQ;clear HC aj DQ;by_cases am:x=0
 ·subst am
  have hg:=A6 (hk.out.zero rfl);by_cases h1:200<q
  ·go_wp2_with fail
   go_ret
   exact⟨2,rfl,⟨by omega,fun dn=>by have:=dn.2.2.1;have:=dr.out;omega⟩,hx.out⟩
  have uo:q≤200:=by omega
  by_cases h2:k<0
  ·clear h1
   go_wp2_with fail
   go_ret
   exact⟨1,rfl,⟨by omega,fun dn=>by have:=dn.2.2.2.1;omega⟩,hx.out⟩
  have JU:0≤k:=by omega
  by_cases h3:999<k
  ·clear h1 h2
   go_wp2_with fail
   go_ret
   exact⟨1,rfl,⟨by omega,fun dn=>by have:=dn.2.2.2.2;omega⟩,hx.out⟩
  ·have h3':k≤999:=by omega
   clear h1 h2 h3;go_wp2_with fail
   go_ret
   exact⟨0,rfl,⟨fun _=>⟨hg.out.1,hg.out.2,by have:=dr.out;omega,JU,h3'⟩,fun _=>rfl⟩,hx.out⟩
 ·have GB:(x !=0)=true:=by simpa using am
  have hxb2:(x==0)=false:=by simpa using am
  have hng:Hid (¬Gh h now k):=A6 (fun dn=>by
   rcases hk.out with⟨hb,_⟩|⟨_,hl,_⟩|⟨_,_,h0⟩
   ·exact dn.1 hb
   ·exact dn.2.1 hl
   ·exact am h0)
  have qz:=A6 am;clear am;go_wp2_with fail
  go_ret
  exact⟨x,rfl,⟨fun h0=>absurd h0 qz.out,fun dn=>absurd dn hng.out⟩,hx.out⟩
def T6 (ok:Prop)(h:Hi)(now:List Int)(k:Nat)(w:World)(e:Ending)(w':World):Prop:=
 An w w'∧((ok∧∃u L m z,e=.returned (.tuple #[u,.slice L m z,(0:Int)])∧Dp w' w.heap.size u (toH h now k)∧Ba w' w.heap.size L m z (toL h now k)∧(L=none→z=0))∨
  (¬ok∧∃x:Int,e=.returned (.tuple #[.agg Eb,(),x])∧x≠0))
def Fv (k:Int):Nat:=(max 1 k).toNat
def rN (ok:Prop)(h:Hi)(now:List Int)(k:Nat)(w:World)(e:Ending)(w':World):Prop:=
 An w w'∧((ok∧∃u L m z,e=.returned (.tuple #[u,.slice L m z,(0:Int)])∧Dp w' w.heap.size u (toH h now k)∧Ba w' w.heap.size L m z (toL h now k)∧(L=none→z=0)∧H7 w' w.heap.size (.slice L m z) u (toH h now k))∨
  (¬ok∧∃x:Int,e=.returned (.tuple #[.agg Eb,(),x])∧x≠0))
theorem rN.goes {ok:Prop}{k:Nat}{e:Ending}{w':World}(hh:rN ok h now k w e w'):T6 ok h now k w e w':=
 ⟨hh.1,hh.2.imp (fun⟨h1,u,L,m,z,h2,h3,h4,h5,_⟩=>⟨h1,u,L,m,z,h2,h3,h4,h5⟩) id⟩
theorem J2u (hv:My w v h)(cy:Bj w N q y now)(hN:N=none→y=0):
 Calls prog 95 #[v,.slice N q y,.int .i64 k] w (rN (Gh h now k∧(Fv k:Int)≤h.at_) h now (h.at_.toNat-Fv k) w):=by
 have N0:=trivial;exact K7
theorem J5r (hv:My w v h)(cy:Bj w N q y now)(hN:N=none→y=0):
 Calls prog 95 #[v,.slice N q y,.int .i64 k] w (T6 (Gh h now k∧(Fv k:Int)≤h.at_) h now (h.at_.toNat-Fv k) w):=
 (J2u hv cy hN).mono fun _ _ h=>h.goes
theorem J0x (hv:My w v h)(cy:Bj w N q y now)(hN:N=none→y=0):
 Calls prog 96 #[v,.slice N q y,.int .i64 k] w (T6 (Gh h now k∧(Fv k:Int)+h.at_≤(h.lines.length:Int)) h now (h.at_.toNat+Fv k) w):=by
 have N1:=trivial;exact K7
theorem dB:¬h.long↔(∀i,i<h.lines.length→(gL h.lines i).length≤200)∧h.scratch.length≤200∧h.pattern.length≤200:=by
 constructor
 ·intro hn
  have hl:h.all.length=h.lines.length+2:=by unfold Hi.all;simp
  have key:∀i,i<h.lines.length+2→(gL h.all i).length≤200:=fun i hi=>by
   rcases Ay 200 (gL h.all i).length with h1|h1
   ·exact absurd ⟨i,by omega,h1⟩ hn
   ·exact h1
  refine⟨fun i hi=>?_,?_,?_⟩
  ·have:=key i (by omega)
   unfold gL Hi.all at this;rw[Bs hi]at this;exact this
  ·have:=key h.lines.length (by omega)
   unfold gL Hi.all at this;rw[Bx (Aj _),Nat.sub_self]at this;exact this
  ·have:=key (h.lines.length+1) (by omega)
   unfold gL Hi.all at this;rw[Bx (by omega),show h.lines.length+1-h.lines.length=1 by omega]at this
   exact this
 ·rintro⟨h1,h2,h3⟩ ⟨i,hi,hl⟩
  unfold gL Hi.all at hl;unfold Hi.all at hi;simp only[List.length_append,List.length_cons,List.length_nil]at hi;rcases Ay i h.lines.length with ae|ku
  ·rw[Bs ae]at hl
   have:=h1 i ae;unfold gL at this;omega
  ·have:i=h.lines.length∨i=h.lines.length+1:=by omega
   rcases this with rfl|rfl
   ·rw[Bx (Aj _),Nat.sub_self]at hl
    simp at hl;omega
   ·rw[Bx (by omega),show h.lines.length+1-h.lines.length=1 by omega]at hl
    simp at hl;omega
theorem fI.nil (w:World):fI w [] []:=⟨rfl,fun i hi=>absurd hi (by simp)⟩
def Lb (h:Hi)(p:List Int):List Int:=if p.length=0 then h.pattern else p
def xS (ls:List (List Int))(p:List Int):Nat→Option Nat
 |0=>none
 |k+1=>if P4 p (gL ls k)then some k else xS ls p k
def xT (ls:List (List Int))(p:List Int)(n:Nat):Nat→Option Nat
 |0=>none
 |r+1=>if P4 p (gL ls (n-(r+1)))then some (n-(r+1))else xT ls p n r
def cA (h:Hi)(p:List Int)(older:Bool):Option Nat:=if older=true then xS h.lines p h.at_.toNat else xT h.lines p h.lines.length (h.lines.length-(h.at_.toNat+1))
def Y7 (h:Hi)(now p:List Int)(older:Bool)(k:Nat):Prop:=Gh h now 0∧p.length≤200∧Lb h p≠[]∧cA h (Lb h p) older=some k
def findH (h:Hi)(now p:List Int)(older:Bool)(k:Nat):Hi:=⟨h.lines,h.most,k,toS h now,Lb h p,older⟩
def J2h (h:Hi)(now p:List Int)(older:Bool)(w:World)(e:Ending)(w':World):Prop:=
 An w w'∧((∃k,Y7 h now p older k∧k<h.lines.length∧∃u L m z,e=.returned (.tuple #[u,.slice L m z,(0:Int)])∧Dp w' w.heap.size u (findH h now p older k)∧Ba w' w.heap.size L m z (toL h now k)∧(L=none→z=0))∨
  ((∀k,¬Y7 h now p older k)∧∃x:Int,e=.returned (.tuple #[.agg Eb,(),x])∧x≠0))
def fZ (h:Hi)(now p:List Int)(older:Bool)(w:World)(e:Ending)(w':World):Prop:=
 An w w'∧((∃k,Y7 h now p older k∧k<h.lines.length∧∃u L m z,e=.returned (.tuple #[u,.slice L m z,(0:Int)])∧Dp w' w.heap.size u (findH h now p older k)∧Ba w' w.heap.size L m z (toL h now k)∧(L=none→z=0)∧H7 w' w.heap.size (.slice L m z) u (findH h now p older k))∨
  ((∀k,¬Y7 h now p older k)∧∃x:Int,e=.returned (.tuple #[.agg Eb,(),x])∧x≠0))
theorem fZ.finds {e:Ending}{w':World}(hh:fZ h now p older w e w'):J2h h now p older w e w':=
 ⟨hh.1,hh.2.imp (fun⟨k,h1,h2,u,L,m,z,h3,h4,h5,h6,_⟩=>⟨k,h1,h2,u,L,m,z,h3,h4,h5,h6⟩) id⟩
theorem vX (hv:My w v h)(cy:Bj w N q y now)(hN:N=none→y=0)(hp:Bj w T0 t0 z0 p)(vw:T0=none→z0=0):
 Calls prog 81 #[v,.slice N q y,.slice T0 t0 z0,.bool older] w (fZ h now p older w):=by
 have HV:=A6 hv;have hLL:∃A n c,∃S sn sc P pn pc,v=.agg (Ct A n c h.most h.at_ S sn sc P pn pc h.older)∧Ym w A n c h.lines∧Mf w (.slice P pn pc) h.pattern:=by
  obtain⟨A,n,c,S,sn,sc,P,pn,pc,e,h1,_,_,h4⟩:=hv;exact⟨A,n,c,S,sn,sc,P,pn,pc,e,h1,h4⟩
 obtain⟨A,n,c,S,sn,sc,P,pn,pc,rfl,hL,hP⟩:=hLL;obtain⟨ls,mo,at_,sl,pl,ol⟩:=h;simp only at hL hP;have HL:=A6 hL;obtain⟨P',bc,pc',fw,hPI,hP0,od⟩:=hP;injection fw with e1 e2 e3;subst e1;subst e2;subst e3;have HPI:=A6 hPI;have HPp:=A6 hp;have HN:=A6 hL.len;have qw:=A6 cy;have dr:=A6 cy.len;have qv:=A6 hp.len;have ky:=Ar hL.ncap hL.nmax;have TU:=Ar hp.ncap hp.nmax;have a9:=A6 ((Aq.new w 94 (Ct A n c mo at_ S sn sc P pn pc ol)).ext (An.alloc _ (.cells Eb 94)));have al:Hid (Aq ((w.alloc (.cells (Ct A n c mo at_ S sn sc P pn pc ol) 94)).alloc (.cells Eb 94)) (w.heap.size+1) 94 Eb):=A6 (by
  have:=Aq.new (w.alloc (.cells (Ct A n c mo at_ S sn sc P pn pc ol) 94)) 94 Eb
  rwa[World.size_alloc]at this)
 have am:Hid (An w ((w.alloc (.cells (Ct A n c mo at_ S sn sc P pn pc ol) 94)).alloc (.cells Eb 94))):=A6 ((An.alloc _ _).to_alloc _);have HR:=A6 (Ta (k:=0) (HV.out.ext am.out) (cy.ext am.out));have f7:Hid (w.heap.size+2≤((w.alloc (.cells (Ct A n c mo at_ S sn sc P pn pc ol) 94)).alloc (.cells Eb 94)).heap.size):=A6 (by simp)
 unfold maxLen at ky TU;clear hv cy hL hp hPI;unfold Ct Eb at*;go_enter func81,ntmps81
 go_wp2_with fail
 refine HR.out.mono ?_
 rintro e w1 ⟨x,rfl,dn,aj⟩;have ay:=A6 (am.out.trans aj);have B3:=A6 (Aq.ext a9.out aj);have B6:=A6 (Aq.ext al.out aj);have iw:w.heap.size+2≤w1.heap.size:=Ar f7.out aj.hsize;have HG:=A6 dn;obtain⟨k0,k1,k2,k3,k4,k5⟩:=Cu B3.out;obtain⟨d0,d1,d2,d3,d4,d5⟩:=Cu B6.out;obtain⟨f0,f1,f2,f3,f4,f5⟩:=Et B6.out;have HX:=A6 (Fo ay.out (show w.heap.size≤w.heap.size+1 by omega) (.slice none 0 0) (.int .i64 0) (.int .i64 0) (.slice none 0 0) (.slice none 0 0) (.bool false))
 have cn:=A6 (Fp B6.out (.slice none 0 0) (.int .i64 0) (.int .i64 0) (.slice none 0 0) (.slice none 0 0) (.bool false));unfold Rr at HX cn;clear HR a9 al am aj dn;by_cases am:x=0
 case neg=>
  have GB:(x !=0)=true:=by simpa using am
  have du:Hid (∀k,¬Y7 ⟨ls,mo,at_,sl,pl,ol⟩ now p older k):=A6 (fun k hh=>am (HG.out.2 hh.1))
  have qz:=A6 am;clear am HG;go_wp2_with fail
  refine bodyPost_ret (v:=.tuple #[.agg Eb,(),x]) ?_ rfl ⟨HX.out,.inr ⟨du.out,x,rfl,qz.out⟩⟩
  exact I4
 case pos=>
  subst am;by_cases ju:(200:Int)<(t0:Int)
  ·have du:Hid (∀k,¬Y7 ⟨ls,mo,at_,sl,pl,ol⟩ now p older k):=A6 (fun k hh=>by have:=hh.2.1;have:=qv.out;omega)
   clear HG;go_wp2_with fail
   refine bodyPost_ret (v:=.tuple #[.agg Eb,(),(2:Int)]) ?_ rfl ⟨HX.out,.inr ⟨du.out,2,rfl,by omega⟩⟩
   exact I4
  ·have ln:=A6 (HG.out.1 rfl)
   have cb:=ln.out.1;unfold Hi.bad at cb;simp only at cb;rw[HN.out]at cb;have bf:q≤200:=by have:=ln.out.2.2.1;have:=dr.out;omega
   obtain⟨a,rfl⟩:∃a:Nat,at_=a:=⟨at_.toNat,by omega⟩
   have DC:(t0:Int)≤200:=by omega
   have ha:a≤n:=by omega
   have AX:n≤50:=by omega
   have p9:t0≤200:=by omega
   have FN:decide ((200:Int)<(t0:Int))=false:=by simp;omega
   clear cb HG ju DC;go_upto_if 30 with fail
   go_cut [2] (fun s2 wx=>∃(T:Option Addr) (t z:Nat),s2=.slice T t z∧t≤200∧Hid (Bj w1 T t z (Lb ⟨ls,mo,(a:Int),sl,pl,ol⟩ p))∧Hid (T=none→z=0)∧w1=wx)
   case first=>
    cases hb:((t0:Int)==0)
    ·have zx:Hid (Lb ⟨ls,mo,(a:Int),sl,pl,ol⟩ p=p):=A6 (by unfold Lb;rw[if_neg (by rw[qv.out];simp at hb;omega)])
     clear hb;go_wp2_with fail
     go_meet
     exact⟨T0,t0,z0,rfl,p9,A6 (by rw[zx.out];exact HPp.out.ext ay.out),A6 vw,rfl⟩
    ·have zx:Hid (Lb ⟨ls,mo,(a:Int),sl,pl,ol⟩ p=pl):=A6 (by unfold Lb;rw[if_pos (by rw[qv.out];simp at hb;omega)])
     have mf:pn≤200:=by have:=(dB.1 ln.out.2.1).2.2;simp only at this;have:=HPI.out.len;omega
     clear hb;go_wp2_with fail
     go_meet
     exact⟨P,pn,pc,rfl,mf,A6 (by rw[zx.out];exact HPI.out.ext ay.out),A6 hP0,rfl⟩
   case rest=>
    obtain⟨T,t,z,rfl,ht200,HT,RR,rfl⟩:=hcut;by_cases GR:t=0
    ·have BL:((t:Int)==0)=true:=by simp;omega
     have WI:Hid ((Lb ⟨ls,mo,(a:Int),sl,pl,ol⟩ p)=[]):=A6 (List.eq_nil_of_length_eq_zero (by rw[HT.out.len];exact GR))
     clear GR;have du:Hid (∀k,¬Y7 ⟨ls,mo,(a:Int),sl,pl,ol⟩ now p older k):=A6 (fun k hh=>hh.2.2.1 WI.out)
     go_wp2_with fail
     refine bodyPost_ret (v:=.tuple #[.agg Eb,(),(6:Int)]) ?_ rfl ⟨HX.out,.inr ⟨du.out,6,rfl,by omega⟩⟩
     exact I4
    ·have BL:((t:Int)==0)=false:=by simp;omega
     have LZ:0<t:=by omega
     clear GR HX cn d0 d1 d2 d3 d4 d5 f0 f1 f2 f3 f4 f5;cases older
     ·-- up
      go_wp2_with fail
      go_loopw [13] (fun s13 wx=>∃(j:Nat),s13=.int .i64 (j:Int)∧a+1≤j∧j≤n+1∧Hid (xT ls (Lb ⟨ls,mo,(a:Int),sl,pl,ol⟩ p) n (n-(a+1))=xT ls (Lb ⟨ls,mo,(a:Int),sl,pl,ol⟩ p) n (n-j))∧Hid (An w1 wx)) (fun s13 _=>n+1-(intOf s13).toNat)
      case atStart=>exact⟨a+1,by go_num,by omega,by omega,A6 rfl,A6 (An.refl _)⟩
      case round=>
       clear k0 k1 k2 k3 k4 k5;obtain⟨j,rfl,um,BM,qu,ld⟩:=hrel;by_cases ae:j<n
       ·have N0:=trivial;exact K6
       ·have N0:=trivial;exact K29
     ·-- down
      go_wp2_with fail
      go_loopw [13] (fun s13 wx=>∃(j:Nat) (i:Int),s13=.int .i64 i∧Hid (i=(j:Int)-1)∧j≤a∧Hid (xS ls (Lb ⟨ls,mo,(a:Int),sl,pl,ol⟩ p) a=xS ls (Lb ⟨ls,mo,(a:Int),sl,pl,ol⟩ p) j)∧Hid (An w1 wx)) (fun s13 _=>(intOf s13+1).toNat)
      case atStart=>exact⟨a,_,rfl,A6 (by omega),Nat.le_refl _,A6 rfl,A6 (An.refl _)⟩
      case round=>
       clear k0 k1 k2 k3 k4 k5;obtain⟨j1,i,rfl,RP,um,qu,ld⟩:=hrel;rcases j1 with _|j
       ·have N1:=trivial;exact K29
       ·have N1:=trivial;exact K6
theorem lG (hv:My w v h)(cy:Bj w N q y now)(hN:N=none→y=0)(hp:Bj w T0 t0 z0 p)(vw:T0=none→z0=0):
 Calls prog 81 #[v,.slice N q y,.slice T0 t0 z0,.bool older] w (J2h h now p older w):=
 (vX hv cy hN hp vw).mono fun _ _ h=>h.finds
def Ru (k:Int):Nat:=(max 0 (k-1)).toNat
theorem J0b (hv:My w v h)(cy:Bj w N q y now)(hN:N=none→y=0):
 Calls prog 97 #[v,.slice N q y,.int .i64 k] w (T6 (Gh h now k∧k≤(h.lines.length:Int)∧0<h.lines.length) h now (Ru k) w):=by
 have N2:=trivial;exact K7
theorem Hg {g q t i:Nat}{u:Value}(h:Aq w q t cs)(ai:g≠q):Aq (w.setCell ⟨g,i,none⟩ u) q t cs:=by
 unfold Aq at h ⊢;unfold World.setCell;simp only[Array.getElem?_modify,ai,if_false,h]
def sI (h:Hi)(now:List Int)(turned:Bool)(w:World)(e:Ending)(w':World):Prop:=
 An w w'∧((∃k,Y7 h now [] (h.older !=turned) k∧k<h.lines.length∧∃u L m z,e=.returned (.tuple #[u,.slice L m z,(0:Int)])∧Dp w' w.heap.size u (findH h now [] h.older k)∧Ba w' w.heap.size L m z (toL h now k)∧(L=none→z=0))∨
  ((∀k,¬Y7 h now [] (h.older !=turned) k)∧∃x:Int,e=.returned (.tuple #[.agg Eb,(),x])∧x≠0))
theorem dZ {turned:Bool}(hv:My w v h)(cy:Bj w N q y now)(hN:N=none→y=0):
 Calls prog 98 #[v,.slice N q y,.bool turned] w (sI h now turned w):=by
 have HV:=A6 hv;obtain⟨A,n,c,S,sn,sc,P,pn,pc,rfl,hn,ky⟩:=hv.cells;obtain⟨ls,mo,at_,sl,pl,ol⟩:=h;have am:Hid (An w ((w.alloc (.cells (Ct A n c mo at_ S sn sc P pn pc ol) 94)).alloc (.cells Eb 94))):=A6 ((An.alloc _ _).to_alloc _);have al:Hid (Aq ((w.alloc (.cells (Ct A n c mo at_ S sn sc P pn pc ol) 94)).alloc (.cells Eb 94)) (w.heap.size+1) 94 Eb):=A6 (by
  have:=Aq.new (w.alloc (.cells (Ct A n c mo at_ S sn sc P pn pc ol) 94)) 94 Eb
  rwa[World.size_alloc]at this)
 have a9:=A6 ((Aq.new w 94 (Ct A n c mo at_ S sn sc P pn pc ol)).ext (An.alloc _ (.cells Eb 94)));have HR:=A6 (lG (older:=ol !=turned) (T0:=none) (t0:=0) (z0:=0) (p:=[]) (HV.out.ext am.out) (cy.ext am.out) hN (Bj.none_ _) (fun _=>rfl))
 have f7:Hid (((w.alloc (.cells (Ct A n c mo at_ S sn sc P pn pc ol) 94)).alloc (.cells Eb 94)).heap.size=w.heap.size+2):=A6 (by simp)
 clear hv hn cy ky;unfold Ct Eb at*;go_enter func98,ntmps98
 go_wp2_with fail
 refine HR.out.mono ?_
 rintro e w1 ⟨aj,hr⟩;have ay:=A6 (am.out.trans aj);have iw:w.heap.size+2≤w1.heap.size:=by have:=aj.hsize;rw[f7.out]at this;exact this
 have B3:=A6 (Aq.ext a9.out aj);have B6:=A6 (Aq.ext al.out aj);obtain⟨k0,k1,k2,k3,k4,k5⟩:=Cu B3.out;obtain⟨d0,d1,d2,d3,d4,d5⟩:=Cu B6.out;obtain⟨f0,f1,f2,f3,f4,f5⟩:=Et B6.out;clear HR a9 al am aj;rcases hr with⟨k,hf,hk,u,L,m,z,rfl,hO,j9,ki⟩|⟨du,x,rfl,hx⟩
 ·rw[f7.out]at hO j9
  obtain⟨O',n',c',S',bp,bq,P',bc,pc',rfl,mj⟩:=hO;have HO:=A6 (show Dp w1 (w.heap.size+2) (.agg (Ct O' n' c' mo k S' bp bq P' bc pc' ol)) (findH ⟨ls,mo,at_,sl,pl,ol⟩ now [] ol k)from⟨O',n',c',S',bp,bq,P',bc,pc',rfl,mj⟩)
  have AA:=A6 hf;have HK:=A6 hk;have HL:=A6 j9;have p8:=A6 ki;clear mj j9 ki hf hk;have qk:=Aq.new w1 94 #[.slice O' n' c',.int .i64 mo,.int .i64 k,.slice S' bp bq,.slice P' bc pc',.bool (ol !=turned)];have wj:=An.alloc w1 (.cells #[.slice O' n' c',mo,k,.slice S' bp bq,.slice P' bc pc',.bool (ol !=turned)] 94);have B3':=A6 (Aq.ext B3.out wj);have Io:=A6 (Aq.ext B6.out wj);unfold Ct;simp only[findH];go_upto_region 3 with fail
  generalize w1.alloc (.cells #[.slice O' n' c',mo,k,.slice S' bp bq,.slice P' bc pc',.bool (ol !=turned)] 94)=W at*;clear k0 k1 k2 k3 k4 k5 d0 d1 d2 d3 d4 d5 f0 f1 f2 f3 f4 f5;have e5:W.cell? ⟨w,5,none⟩=some (.bool ol):=B3'.out.cell 5;obtain⟨d0,d1,d2,d3,d4,d5⟩:=Cu Io.out;obtain⟨f0,f1,f2,f3,f4,f5⟩:=Et Io.out;obtain⟨x0,x1,x2,x3,x4,x5⟩:=Cu qk;obtain⟨g0,g1,g2,g3,g4,g5⟩:=Et qk;have YD:=A6 (wj.setCell (p:=⟨w1,5,none⟩) (Nat.le_refl _) (.bool ol));have B69:=A6 (Hg (i:=5) (u:=.bool ol) Io.out (show w1.heap.size≠w.heap.size+1 by omega))
  have io:=A6 (J2 (g:=w.heap.size+1) (HO.out.ext YD.out) (by omega) (.slice O' n' c') (.int .i64 mo) (.int .i64 k) (.slice S' bp bq) (.slice P' bc pc') (.bool ol))
  have jp:=A6 (Jt (g:=w.heap.size+1) (Ba.ext HL.out YD.out) (by omega) (.slice O' n' c') (.int .i64 mo) (.int .i64 k) (.slice S' bp bq) (.slice P' bc pc') (.bool ol))
  have dv:=A6 (Fo (ay.out.trans YD.out) (show w.heap.size≤w.heap.size+1 by omega) (.slice O' n' c') (.int .i64 mo) (.int .i64 k) (.slice S' bp bq) (.slice P' bc pc') (.bool ol))
  have kc:=A6 (Fp B69.out (.slice O' n' c') (.int .i64 mo) (.int .i64 k) (.slice S' bp bq) (.slice P' bc pc') (.bool ol));have n1:¬w1.heap.size=w.heap.size+1:=by omega
  have n2:¬w.heap.size+1=w1.heap.size:=by omega
  clear qk wj;unfold Rr at io jp dv kc;go_wp2_with fail
  refine bodyPost_ret (v:=.tuple #[.agg (Ct O' n' c' mo k S' bp bq P' bc pc' ol),.slice L m z,(0:Int)]) ?_ rfl ⟨dv.out,.inl ⟨k,AA.out,HK.out,_,L,m,z,rfl,io.out.lower (by omega),Bd.lower jp.out (by omega),p8.out⟩⟩
  exact I7
 ·have GB:(x==0)=false:=by simpa using hx
  have HX:=A6 hx;have MG:=A6 du;clear hx du;have qk:=Aq.new w1 94 #[.slice none 0 0,.int .i64 0,.int .i64 0,.slice none 0 0,.slice none 0 0,.bool false];have wj:=An.alloc w1 (.cells #[(),(0:Int),(0:Int),(),(),false] 94);have Io:=A6 (Aq.ext B6.out wj);unfold Eb;go_upto_region 4 with fail
  generalize w1.alloc (.cells #[(),(0:Int),(0:Int),(),(),false] 94)=W at*;clear k0 k1 k2 k3 k4 k5 d0 d1 d2 d3 d4 d5 f0 f1 f2 f3 f4 f5;obtain⟨d0,d1,d2,d3,d4,d5⟩:=Cu Io.out;obtain⟨f0,f1,f2,f3,f4,f5⟩:=Et Io.out;obtain⟨x0,x1,x2,x3,x4,x5⟩:=Cu qk;have dv:=A6 (Fo (ay.out.trans wj) (show w.heap.size≤w.heap.size+1 by omega) (.slice none 0 0) (.int .i64 0) (.int .i64 0) (.slice none 0 0) (.slice none 0 0) (.bool false))
  have kc:=A6 (Fp Io.out (.slice none 0 0) (.int .i64 0) (.int .i64 0) (.slice none 0 0) (.slice none 0 0) (.bool false));have HP:=A6 (show sI ⟨ls,mo,at_,sl,pl,ol⟩ now turned w (.returned (.tuple #[.agg Eb,(),x])) _ from⟨dv.out,.inr ⟨MG.out,x,rfl,HX.out⟩⟩)
  clear qk wj;unfold Rr at HP kc;go_wp2_with fail
  refine bodyPost_ret (v:=.tuple #[.agg Eb,(),x]) ?_ rfl HP.out
  exact I7
def Rc (rs:Nat→List Int)(k:Int):List Int:=match Gb k with|none=>[]|some (i,_)=>rs i
def Nb (rs:Nat→List Int)(k:Int):Int:=match Gb k with|none=>9|some (i,_)=>if(rs i).length=0 then 6 else 0
theorem J0h (rs:Nat→List Int)(k:Int):Nb rs k=0∨Nb rs k=6∨Nb rs k=9:=by
 unfold Nb;split
 ·exact .inr (.inr rfl)
 ·split
  ·exact .inr (.inl rfl)
  ·exact .inl rfl
theorem jD (hr:Lp w cs rs):
 Calls prog 147 #[.agg cs,.int .i64 k] w fun e w'=>∃B n d,e=.returned (.tuple #[.slice B n d,.int .i64 (Nb rs k)])∧Ba w' w.heap.size B n d (Rc rs k)∧(B=none→d=0)∧An w w':=by
 cases h:Gb k with
 |none=>
  have e1:Nb rs k=9:=by unfold Nb;rw[h]
  have e2:Rc rs k=[]:=by unfold Rc;rw[h]
  rw[e1,e2];have HN:=fun w=>A6 (Zg w h)
  clear h e1 e2 hr;go_enter func147,ntmps147
  go_wp2_with fail
  refine((HN _).out).mono ?_
  rintro e w1 ⟨rfl,rfl⟩;clear HN;go_wp2_with fail
  go_ret2
  exact⟨none,0,0,rfl,Ba.nil _ _,fun _=>rfl,An.alloc _ _⟩
 |some p=>
  obtain⟨i,m⟩:=p;have e1:Nb rs k=if(rs i).length=0 then 6 else 0:=by unfold Nb;rw[h]
  have e2:Rc rs k=rs i:=by unfold Rc;rw[h]
  rw[e1,e2];have HN:=fun w=>A6 (U1 w h)
  have hi:=Wm h;obtain⟨v,hv,B,q,d,rfl,hI,hB,hq⟩:=hr.2 i hi;have dr:=hI.len;have HC:=A6 (Dj (hI.ext (An.alloc w (.cells cs 38))) hB hq);have SF:q≤9223372036854775807:=by omega
  rw[dr];have HL:=A6 dr;clear h e1 e2 hr hI hB dr;by_cases h0:q=0
  ·subst h0
   go_enter func147,ntmps147
   go_wp2_with fail
   refine((HN _).out).mono ?_
   rintro e w1 ⟨rfl,rfl⟩;clear HN;go_wp2_with fail
   go_ret2
   exact⟨none,0,0,rfl,by rw[List.eq_nil_of_length_eq_zero HL.out];exact Ba.nil _ _,fun _=>rfl,An.alloc _ _⟩
  ·have hqp:0<q:=by omega
   rw[if_neg h0];clear h0;go_enter func147,ntmps147
   go_wp2_with fail
   refine((HN _).out).mono ?_
   rintro e w1 ⟨rfl,rfl⟩;clear HN;go_wp2_with fail
   refine HC.out.mono ?_
   rintro e w2 ⟨B2,d2,rfl,hO,ko,he⟩;clear HC;go_wp2_with fail
   go_ret2
   exact⟨B2,q,d2,rfl,Bd.lower hO (by simp),ko,(An.alloc _ _).trans he⟩
end
