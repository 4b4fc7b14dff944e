/-
  Part ZFb.
-/
import Derived.Test.YtiahhfglhlgfiaaGreatZFa
import Derived.OwnWalk
import Derived.IntWalk
import Derived.Deep.Cut
import Derived.Deep.QuietTactic
import Derived.Deep.RegionHeld3
import Derived.Deep.RegionWith
import Derived.Deep.RegionLaw
set_option maxRecDepth 100000
set_option maxHeartbeats 16000000
set_option linter.unusedVariables false
set_option linter.unusedSimpArgs false
namespace Go.Proofs.YtiahhfglhlgfiaaGreat
open Go.RowKit
section
variable {p:Prop}
theorem K0 (h:p:=by
 first
  |(
   guard_hyp N1
   have hcf:Yf c.op c.verb=false:=by simpa using hcb
   rw[hcf];have hD4:Br p W2 col (G7 s c) W2:=⟨col,v,by unfold G7;rw[if_neg hcb];exact H.out.ext (HW.out.trans HE2.out),Kp.refl _ _⟩
   obtain⟨W4,hW4⟩:∃x,x=W2:=⟨_,rfl⟩;have HD4:Hid (Br p W2 col (G7 s c) W4):=A4 (by rw[hW4];exact hD4)
   clear hD4 hcb hcf)
  |(
   rw[hcb];have HCB:=A4 hcb;clear hcb;go_wp2_with fail
   refine(HSV.out W2 (HW.out.trans HE2.out)).mono ?_
   rintro e' W3 ⟨rfl,col3,v3,hm3,ht3⟩;have hc3:An W3 w.heap.size 87 (Ma c):=ht3.1.blk (HC.out.ext HE2.out) fun hn=>hn.1 (H.out.ses.lt (Nat.le_refl _))
   have e0:W3.cell? ⟨w.heap.size,0,none⟩=some (.int .i64 c.count):=hc3.cell 0;have e1:W3.cell? ⟨w.heap.size,1,none⟩=some (.int .i64 c.reg):=hc3.cell 1;have e2:W3.cell? ⟨w.heap.size,2,none⟩=some (.int .i64 c.op):=hc3.cell 2;have e3:W3.cell? ⟨w.heap.size,3,none⟩=some (.int .i64 c.verb):=hc3.cell 3;have e4:W3.cell? ⟨w.heap.size,4,none⟩=some (.int .i64 c.arg):=hc3.cell 4;have hax:=Al.alloc W3 (.cells #[.int .i64 c.count,.int .i64 c.reg,.int .i64 c.op,.int .i64 c.verb,.int .i64 c.arg,.slice none 0 0] 112);have d47:(W3.alloc (.cells #[.int .i64 c.count,.int .i64 c.reg,.int .i64 c.op,.int .i64 c.verb,.int .i64 c.arg,.slice none 0 0] 112)).cell? ⟨p,47,none⟩=some (.pointer v3.now):=(hm3.ses.blk.ext hax).cell 47;have f47:(W3.alloc (.cells #[.int .i64 c.count,.int .i64 c.reg,.int .i64 c.op,.int .i64 c.verb,.int .i64 c.arg,.slice none 0 0] 112)).frozen? ⟨p,47,none⟩=false:=(hm3.ses.blk.ext hax).frozen 47;clear hax;have hD4:Br p W2 col (G7 s c) ((W3.alloc (.cells #[.int .i64 c.count,.int .i64 c.reg,.int .i64 c.op,.int .i64 c.verb,.int .i64 c.arg,.slice none 0 0] 112)).setCell ⟨p,47,none⟩ (.pointer (some ⟨W3.heap.size,0,none⟩))):=
    Br.trans ht3 (by unfold G7;rw[if_pos HCB.out];exact hm3.chg c)
   have HD4:=A4 hD4;clear hc3 hm3 ht3 hD4)
 go_upto_region 8 with fail
 first
  |(
   guard_hyp N1
   rw[←hW4];clear hW4)
  |(
   clear e0 e1 e2 e3 e4 d47 f47;generalize World.setCell (World.alloc _ _) _ _=W4 at *)
 obtain⟨col4,v4,hm4,ht4⟩:=HD4.out;obtain⟨hb6,hne,col5,hm5,ht5,hD5⟩:=wA H.out (HW.out.trans HE2.out) (HB5.out.ext HE2.out) HZ5.out (HDn.out.ext HE2.out) hm4 ht4
 first
  |(
   guard_hyp N1
   clear hm4 ht4 HD4 HDO HLN HSV HBL HC HP HB5 HDn HE2)
  |(
   clear hm4 ht4 HD4 HCB HDO HLN HSV HBL HC HP HB5 HDn HE2)
 obtain⟨s4,hs4⟩:∃x,x=G7 s c:=⟨_,rfl⟩;rw[←hs4]at hm5;have HS4:=A4 hs4;have HT5:=A4 ht5;have HM5:=A4 hm5;have HD5:=A4 hD5;have hpd:=hm5.ses.blk;clear hs4 ht5 hm5 hD5;refine wp_region_held_drew (S:=fun w'=>An w' g5 161 (kH B q k r e d)) (by kernel_rfl) hb6 (fun hS=>?_)
 refine B8 (i:=0) (v:=(.pointer (some ⟨p,0,none⟩))) rfl hS ?_
 refine B8 (i:=1) (v:=(.pointer (some ⟨p,0,none⟩))) rfl hS ?_
 refine B8 (i:=2) (v:=(.pointer (some ⟨p,0,none⟩))) rfl hS ?_
 refine B8 (i:=3) (v:=(.pointer (some ⟨g5,2,none⟩))) rfl hS ?_
 refine F4 (i:=4) (v:=(.agg (L9 r))) rfl (fun w' hSw=>by exact De 40 (.tmp 39) rfl g5 2 27 rfl hSw (by kernel_rfl) Tryz.underlying40 rfl (by kernel_rfl)) hS ?_
 refine B8 (i:=5) (v:=(.pointer (some ⟨g5,29,none⟩))) rfl hS ?_
 refine F4 (i:=6) (v:=(.agg #[.int .i64 d.fk,.int .i64 d.fa])) rfl (fun w' hSw=>by exact De 38 (.tmp 41) rfl g5 29 2 rfl hSw (by kernel_rfl) Tryz.underlying38 rfl (by kernel_rfl)) hS ?_
 refine B8 (i:=7) (v:=(.pointer (some ⟨g5,31,none⟩))) rfl hS ?_
 refine F4 (i:=8) (v:=(.int .i64 d.md)) rfl (fun w' hSw=>by have e0:w'.cell? ⟨g5,31,none⟩=some (.int .i64 d.md):=hSw.cell 31;go_simp) hS ?_
 refine B8 (i:=9) (v:=(.pointer (some ⟨p,0,none⟩))) rfl hS ?_
 refine B8 (i:=10) (v:=(.pointer (some ⟨p,3,none⟩))) rfl hS ?_
 have cc:=Dh.start (Al.drew W4) (hpd.ext (Al.drew W4));generalize W4.drew=cur4 at*;refine wpAnyH_ready (rs:=[11]) (by decide +kernel) (by simp) (AllReadyH.cons rfl (fun K hK=>?_) AllReadyH.nil)
 refine Bv rfl 40 (.tmp 46) (.tmp 40) rfl p 3 (L9 r) rfl rfl 65 _ cc.blk (by kernel_rfl) (by show 3+27≤58;decide) hone ?_
 refine hK.out _ _ (hS.setRow_other _ (fun e=>hne e.symm)) (fun hS'=>?_)
 replace hS:=hS';clear hK K hS';replace cc:=cc.row (Lj (Ll v4 s4) 3 (L9 r));generalize World.setRow _ _ _=W6 at*
 try simp only[List.getElem_toArray,List.getElem_cons_zero,List.getElem_cons_succ,Act.put,List.setIfInBounds_toArray,List.set_cons_zero,List.set_cons_succ]
 refine B8 (i:=12) (v:=(.pointer (some ⟨p,0,none⟩))) rfl hS ?_
 refine B8 (i:=13) (v:=(.pointer (some ⟨p,30,none⟩))) rfl hS ?_
 have g30:W6.cell? ⟨p,30,none⟩=some (.int .i64 s4.fk):=cc.blk.cell 30;have g31:W6.cell? ⟨p,31,none⟩=some (.int .i64 s4.fa):=cc.blk.cell 31;have f30:=cc.blk.frozen 30;have f31:=cc.blk.frozen 31;refine wpAnyH_ready (rs:=[14]) (by decide +kernel) (by simp) (AllReadyH.cons rfl (fun K hK=>?_) AllReadyH.nil)
 go_simp
 refine hK.out _ _ (Tn (Tn hS hne 30 _) hne 31 _) (fun hS'=>?_)
 replace hS:=hS';clear hK K hS' g30 g31 f30 f31;replace cc:=(cc.set 30 (.int .i64 d.fk)).set 31 (.int .i64 d.fa);generalize World.setCell (World.setCell _ _ _) _ _=W7 at*
 try simp only[List.getElem_toArray,List.getElem_cons_zero,List.getElem_cons_succ,Act.put,List.setIfInBounds_toArray,List.set_cons_zero,List.set_cons_succ]
 refine B8 (i:=15) (v:=(.pointer (some ⟨p,0,none⟩))) rfl hS ?_
 refine B8 (i:=16) (v:=(.pointer (some ⟨p,2,none⟩))) rfl hS ?_
 have g2:W7.cell? ⟨p,2,none⟩=some (.int .i64 s4.mode):=cc.blk.cell 2;have f2:=cc.blk.frozen 2;refine wpAnyH_ready (rs:=[17]) (by decide +kernel) (by simp) (AllReadyH.cons rfl (fun K hK=>?_) AllReadyH.nil)
 go_simp
 refine hK.out _ _ (Tn hS hne 2 _) (fun hS'=>?_)
 replace hS:=hS';clear hK K hS' g2 f2;replace cc:=cc.set 2 (.int .i64 d.md);generalize World.setCell _ _ _=W8 at*;refine wpAnyH_done (by kernel_rfl) ?_ _
 have HE:=A4 (HM5.out.chainD HD5.out cc { v4 with r:=r } { s4 with rl:=d.rl,fk:=d.fk,fa:=d.fa,mode:=d.md } (by kernel_rfl) (fun w'' htr hdn hv=>⟨hv.1,hv.2,⟨rfl,fun i hi=>⟨r i,Nd r i hi,hdn.regs i hi⟩⟩,hv.4,hv.5,hv.6,hv.7,hv.8⟩))
 have e0:W8.cell? ⟨g5,0,none⟩=some (.slice B q k):=hS.cell 0;have e1:W8.cell? ⟨g5,1,none⟩=some (.int .i64 d.at_):=hS.cell 1;have hTx:Av W8 0 B q k d.tx:=(HD5.out _ _ cc.alt fun k1 h1 h2 h3=>by have h7:=HM5.out.ses.own;rw[h3]at h2;omega).text
 have HSt:=A4 (aQ (a:=d.at_) HE.out.1 hTx.ints (by rw[←hTx.ints.len];exact HZ.out d HD.out))
 clear hTx hpd cc hS HM5 HD5;go_wp2_with fail
 refine HSt.out.mono ?_
 rintro e' W9 ⟨rfl,tq,hmid,htr⟩;have HTR:=A4 (HT5.out.trans (HE.out.2.trans htr));have hmid:Db W9 col5 p { { v4 with r:=r }with tr:=tq } (Fz s4 d):=hmid;have d2:W9.cell? ⟨p,2,none⟩=some (.int .i64 d.md):=hmid.ses.blk.cell 2;have d46:W9.cell? ⟨p,46,none⟩=some (.pointer v4.last):=hmid.ses.blk.cell 46;have d47:W9.cell? ⟨p,47,none⟩=some (.pointer v4.now):=hmid.ses.blk.cell 47;have fz:=hmid.ses.blk.frozen;have HMid:=A4 hmid;have HFin:Hid (Ni s c d=Pn (Fz s4 d)):=A4 (by rw[HS4.out];rfl)
 clear htr HSt HE e0 e1 hmid;by_cases hmd:d.md=0
 ·rw[hmd]at d2
  have HMD:=A4 hmd;have hN:=HMid.out.ses.now;clear hmd;cases hv:v4.now with
  |none=>
   rw[hv]at d47;have hsn:(Fz s4 d).now=none:=by
    have hN:Py W9 col5 v4.now (Fz s4 d).now:=hN;rw[hv]at hN;rcases hs:(Fz s4 d).now with _|⟨c',l'⟩
    ·rfl
    ·rw[hs]at hN;exact absurd hN (fun h=>h)
   have HR:Hid (Br p w col (Ni s c d) W9):=A4 (by rw[HFin.out,bV hsn];exact⟨_,_,HMid.out,HTR.out⟩)
   clear hN hsn;go_wp2_with fail
   go_ret
   exact .inr ⟨d,HD.out,rfl,HR.out⟩
  |some qa=>
   rw[hv]at d47;have hsn:((Fz s4 d).now.or (Fz s4 d).last)=(Fz s4 d).now:=by
    have hN:Py W9 col5 v4.now (Fz s4 d).now:=hN;rw[hv]at hN;rcases hs:(Fz s4 d).now with _|⟨c',l'⟩
    ·rw[hs]at hN;exact absurd hN (fun h=>h)
    ·rfl
   have c3:=((Dh.start (Al.refl W9) HMid.out.ses.blk).set 46 (.pointer (some qa))).set 47 (.pointer none);have hl:=Z6 (v':={ { { v4 with r:=r }with tr:=tq }with last:=some qa,now:=none }) (s':={ Fz s4 d with last:=(Fz s4 d).now.or (Fz s4 d).last,now:=none }) HMid.out hv c3.alt (c3.to (by kernel_rfl)) (fun w'' _ ht hc hd=>⟨hd.1,hd.2,hd.3,hd.4,hd.5,by rw[hsn];have hc:Ve w'' v4.now _:=hc;rw[hv]at hc;exact hc,hd.7,hd.8⟩)
   have HR:=A4 (Br.trans HTR.out hl);have HQ:Hid (Ni s c d={ Fz s4 d with last:=(Fz s4 d).now.or (Fz s4 d).last,now:=none }):=A4 (by rw[HFin.out];exact if_pos HMD.out)
   clear hN hsn c3 hl;go_wp2_with fail
   go_ret
   refine .inr ⟨d,HD.out,rfl,?_⟩
   rw[HQ.out];exact HR.out
 ·have hmb:(d.md==0)=false:=by simpa using hmd
  have HR:Hid (Br p w col (Ni s c d) W9):=A4 (by rw[HFin.out,show Pn (Fz s4 d)=Fz s4 d from if_neg hmd];exact⟨_,_,HMid.out,HTR.out⟩)
  clear hmd;go_wp2_with fail
  go_ret
  exact .inr ⟨d,HD.out,rfl,HR.out⟩):p:=h
theorem K1 (h:p:=by
 first
  |(
   guard_hyp N1
   have hk:k4=44:=by simpa using ‹(k4==44)=true›)
  |(
   have hk:k4=59:=by simpa using ‹(k4==59)=true›)
 have hf:¬fk=0:=by simpa using ‹(fk==0)=false›
 subst hk;have q0:=B7.out.frozen 0;have q2:=B7.out.frozen 2;clear x0 x1 y0 y1 y2 y3 y4;have b7:=B7.out.ext (Al.drew W0);have b2:=B2.out.ext (Al.drew W0);have b3:=B3.out.ext (Al.drew W0);have b4:=B4.out.ext (Al.drew W0);have b5:=B5.out.ext (Al.drew W0);have m0:=(G9 b7).1;have f0:=b7.frozen 0;have b7a:An (W0.setCell ⟨w.heap.size+1+1+1+1,0,none⟩ (.int .i64 fk)).drew (w.heap.size+1+1+1+1) 202 #[.int .i64 fk,.int .i64 k1,.int .i64 k5]:=b7.set_ 0 _;have m2:=(G9 b7a).2.2;have f2:=b7a.frozen 2;have b7b:An ((W0.setCell ⟨w.heap.size+1+1+1+1,0,none⟩ (.int .i64 fk)).setCell ⟨w.heap.size+1+1+1+1,2,none⟩ (.int .i64 fa)).drew (w.heap.size+1+1+1+1) 202 #[.int .i64 fk,.int .i64 k1,.int .i64 fa]:=b7a.set_ 2 _;have b2a:An (W0.setCell ⟨w.heap.size+1+1+1+1,0,none⟩ (.int .i64 fk)).drew (w.heap.size) 38 #[.int .i64 fk,.int .i64 fa]:=Bh b2 (show w.heap.size+1+1+1+1≠w.heap.size by omega) 0 (.int .i64 fk)
 have hSa:=A4 (Ef b2);have hSb:=A4 (Ef b2a);have b2c:An ((W0.setCell ⟨w.heap.size+1+1+1+1,0,none⟩ (.int .i64 fk)).setCell ⟨w.heap.size+1+1+1+1,2,none⟩ (.int .i64 fa)).drew (w.heap.size) 38 #[.int .i64 fk,.int .i64 fa]:=Bh b2a (show w.heap.size+1+1+1+1≠w.heap.size by omega) 2 (.int .i64 fa)
 have hSc:=A4 (Ef b2c);clear b2c;have C2:Hid (An ((W0.setCell ⟨w.heap.size+1+1+1+1,0,none⟩ (.int .i64 fk)).setCell ⟨w.heap.size+1+1+1+1,2,none⟩ (.int .i64 fa)).drew (w.heap.size) 38 #[.int .i64 fk,.int .i64 fa]):=A4 (Bh (Bh b2 (show w.heap.size+1+1+1+1≠w.heap.size by omega) 0 (.int .i64 fk)) (show w.heap.size+1+1+1+1≠w.heap.size by omega) 2 (.int .i64 fa))
 first
  |(
   guard_hyp N1
   have C3:Hid (An ((W0.setCell ⟨w.heap.size+1+1+1+1,0,none⟩ (.int .i64 fk)).setCell ⟨w.heap.size+1+1+1+1,2,none⟩ (.int .i64 fa)).drew (w.heap.size+1) 87 #[.int .i64 k1,.int .i64 k2,.int .i64 k3,.int .i64 44,.int .i64 k5]):=A4 (Bh (Bh b3 (show w.heap.size+1+1+1+1≠w.heap.size+1 by omega) 0 (.int .i64 fk)) (show w.heap.size+1+1+1+1≠w.heap.size+1 by omega) 2 (.int .i64 fa)))
  |(
   have C3:Hid (An ((W0.setCell ⟨w.heap.size+1+1+1+1,0,none⟩ (.int .i64 fk)).setCell ⟨w.heap.size+1+1+1+1,2,none⟩ (.int .i64 fa)).drew (w.heap.size+1) 87 #[.int .i64 k1,.int .i64 k2,.int .i64 k3,.int .i64 59,.int .i64 k5]):=A4 (Bh (Bh b3 (show w.heap.size+1+1+1+1≠w.heap.size+1 by omega) 0 (.int .i64 fk)) (show w.heap.size+1+1+1+1≠w.heap.size+1 by omega) 2 (.int .i64 fa)))
 have C4:Hid (An ((W0.setCell ⟨w.heap.size+1+1+1+1,0,none⟩ (.int .i64 fk)).setCell ⟨w.heap.size+1+1+1+1,2,none⟩ (.int .i64 fa)).drew (w.heap.size+1+1) 202 #[.int .i64 0,.int .i64 0,.int .i64 0]):=A4 (Bh (Bh b4 (show w.heap.size+1+1+1+1≠w.heap.size+1+1 by omega) 0 (.int .i64 fk)) (show w.heap.size+1+1+1+1≠w.heap.size+1+1 by omega) 2 (.int .i64 fa))
 have C5:Hid (An ((W0.setCell ⟨w.heap.size+1+1+1+1,0,none⟩ (.int .i64 fk)).setCell ⟨w.heap.size+1+1+1+1,2,none⟩ (.int .i64 fa)).drew (w.heap.size+1+1+1) 38 #[.int .i64 0,.int .i64 0]):=A4 (Bh (Bh b5 (show w.heap.size+1+1+1+1≠w.heap.size+1+1+1 by omega) 0 (.int .i64 fk)) (show w.heap.size+1+1+1+1≠w.heap.size+1+1+1 by omega) 2 (.int .i64 fa))
 have C7:=A4 b7b;have CX:Hid (Al w ((W0.setCell ⟨w.heap.size+1+1+1+1,0,none⟩ (.int .i64 fk)).setCell ⟨w.heap.size+1+1+1+1,2,none⟩ (.int .i64 fa)).drew):=A4 (Al.setCell (Al.setCell (HX.out.trans (Al.drew W0)) (p:=⟨w.heap.size+1+1+1+1,0,none⟩) (show w.heap.size≤w.heap.size+1+1+1+1 by omega) (.int .i64 fk)) (p:=⟨w.heap.size+1+1+1+1,2,none⟩) (show w.heap.size≤w.heap.size+1+1+1+1 by omega) (.int .i64 fa))
 clear b2 b3 b4 b5 b7 b7a b7b b2a B2 B3 B4 B5 B7 HX;refine wp_region_held_drew (S:=fun w'=>w'.cell? ⟨w.heap.size,0,none⟩=some (.int .i64 fk)∧w'.cell? ⟨w.heap.size,1,none⟩=some (.int .i64 fa)) (by kernel_rfl) hSa.out (fun hHeld=>?_)
 refine Bo (i:=0) (v:=(.pointer (some ⟨w.heap.size,0,none⟩))) rfl hHeld ?_
 refine Bo (i:=1) (v:=(.int .i64 fk)) rfl hHeld ?_
 refine Bo (i:=2) (v:=(.pointer (some ⟨w.heap.size,1,none⟩))) rfl hHeld ?_
 refine Bo (i:=3) (v:=(.int .i64 fa)) rfl hHeld ?_
 refine Bo (i:=4) (v:=(.pointer (some ⟨w.heap.size+1+1+1+1,0,none⟩))) rfl hHeld ?_
 refine wpAnyH_ready (rs:=[5]) (by kernel_rfl) (by simp) ?_
 refine AllReadyH.cons rfl (fun K hK=>?_) AllReadyH.nil
 go_simp
 refine hK.out _ _ hSb.out (fun hHeld2=>?_)
 clear hK K hHeld
 try simp only[List.getElem_toArray,List.getElem_cons_zero,List.getElem_cons_succ,Act.put,List.setIfInBounds_toArray,List.set_cons_zero,List.set_cons_succ]
 refine Bo (i:=6) (v:=(.pointer (some ⟨w.heap.size+1+1+1+1,2,none⟩))) rfl hHeld2 ?_
 refine wpAnyH_ready (rs:=[7]) (by kernel_rfl) (by simp) ?_
 refine AllReadyH.cons rfl (fun K hK=>?_) AllReadyH.nil
 go_simp
 refine hK.out _ _ hSc.out (fun hHeld3=>?_)
 clear hK K hHeld2
 try simp only[List.getElem_toArray,List.getElem_cons_zero,List.getElem_cons_succ,Act.put,List.setIfInBounds_toArray,List.set_cons_zero,List.set_cons_succ]
 refine wpAnyH_done (by kernel_rfl) ?_ _
 clear m0 m2 f0 f2 hSa hSb hSc q0 q2 z0 z1 z2;generalize ((W0.setCell ⟨w.heap.size+1+1+1+1,0,none⟩ (.int .i64 fk)).setCell ⟨w.heap.size+1+1+1+1,2,none⟩ (.int .i64 fa)).drew=W2 at*;have y3:=(Ta C3.out).2.2.2.1
 first
  |(
   guard_hyp N1
   have z0:=(G9 C7.out).1;have g0:=C7.out.frozen 0)
  |skip
 go_upto_region 15 with fail
 first
  |(
   guard_hyp N1
   have D7:Hid (An (W2.setCell ⟨w.heap.size+1+1+1+1,0,none⟩ (.int .i64 (bits .xor .i64 fk 32))) (w.heap.size+1+1+1+1) 202 #[.int .i64 (bits .xor .i64 fk 32),.int .i64 k1,.int .i64 fa]):=A4 (C7.out.set_ 0 _);have D2:=A4 (Bh C2.out (show w.heap.size+1+1+1+1≠w.heap.size by omega) 0 (.int .i64 (bits .xor .i64 fk 32)))
   have D4:=A4 (Bh C4.out (show w.heap.size+1+1+1+1≠w.heap.size+1+1 by omega) 0 (.int .i64 (bits .xor .i64 fk 32)))
   have D5:=A4 (Bh C5.out (show w.heap.size+1+1+1+1≠w.heap.size+1+1+1 by omega) 0 (.int .i64 (bits .xor .i64 fk 32)))
   have DX:=A4 (Al.setCell CX.out (p:=⟨w.heap.size+1+1+1+1,0,none⟩) (show w.heap.size≤w.heap.size+1+1+1+1 by omega) (.int .i64 (bits .xor .i64 fk 32)))
   clear C2 C3 C4 C5 C7 CX y3 z0 g0;generalize (W2.setCell ⟨w.heap.size+1+1+1+1,0,none⟩ (.int .i64 (bits .xor .i64 fk 32)))=W3 at*;have hSw:∀wx,An wx (w.heap.size+1+1+1+1) 202 #[.int .i64 (bits .xor .i64 fk 32),.int .i64 k1,.int .i64 fa]→An wx (w.heap.size) 38 #[.int .i64 fk,.int .i64 fa]→wx.cell? ⟨w.heap.size+1+1+1+1,0,none⟩=some (.int .i64 (bits .xor .i64 fk 32))∧wx.cell? ⟨w.heap.size+1+1+1+1,1,none⟩=some (.int .i64 k1)∧wx.cell? ⟨w.heap.size+1+1+1+1,2,none⟩=some (.int .i64 fa)∧wx.cell? ⟨w.heap.size,0,none⟩=some (.int .i64 fk)∧wx.cell? ⟨w.heap.size,1,none⟩=some (.int .i64 fa):=fun wx h7 h2=>⟨(G9 h7).1,(G9 h7).2.1,(G9 h7).2.2,(Ef h2).1,(Ef h2).2⟩
   have hS0:=A4 (hSw _ (D7.out.ext (Al.drew W3)) (D2.out.ext (Al.drew W3)));have hS1:=A4 (hSw _ (An.setRow_other (D7.out.ext (Al.drew W3)) #[.int .i64 (bits .xor .i64 fk 32),.int .i64 k1,.int .i64 fa] (show w.heap.size+1+1+1+1≠w.heap.size+1+1 by omega)) (An.setRow_other (D2.out.ext (Al.drew W3)) #[.int .i64 (bits .xor .i64 fk 32),.int .i64 k1,.int .i64 fa] (show w.heap.size≠w.heap.size+1+1 by omega)))
   have hS2:=A4 (hSw _ (An.setRow_other (An.setRow_other (D7.out.ext (Al.drew W3)) #[.int .i64 (bits .xor .i64 fk 32),.int .i64 k1,.int .i64 fa] (show w.heap.size+1+1+1+1≠w.heap.size+1+1 by omega)) #[.int .i64 fk,.int .i64 fa] (show w.heap.size+1+1+1+1≠w.heap.size+1+1+1 by omega)) (An.setRow_other (An.setRow_other (D2.out.ext (Al.drew W3)) #[.int .i64 (bits .xor .i64 fk 32),.int .i64 k1,.int .i64 fa] (show w.heap.size≠w.heap.size+1+1 by omega)) #[.int .i64 fk,.int .i64 fa] (show w.heap.size≠w.heap.size+1+1+1 by omega))))
  |(
   clear C3 y3;have hSw:∀wx,An wx (w.heap.size+1+1+1+1) 202 #[.int .i64 fk,.int .i64 k1,.int .i64 fa]→An wx (w.heap.size) 38 #[.int .i64 fk,.int .i64 fa]→wx.cell? ⟨w.heap.size+1+1+1+1,0,none⟩=some (.int .i64 fk)∧wx.cell? ⟨w.heap.size+1+1+1+1,1,none⟩=some (.int .i64 k1)∧wx.cell? ⟨w.heap.size+1+1+1+1,2,none⟩=some (.int .i64 fa)∧wx.cell? ⟨w.heap.size,0,none⟩=some (.int .i64 fk)∧wx.cell? ⟨w.heap.size,1,none⟩=some (.int .i64 fa):=fun wx h7 h2=>⟨(G9 h7).1,(G9 h7).2.1,(G9 h7).2.2,(Ef h2).1,(Ef h2).2⟩
   have hS0:=A4 (hSw _ (C7.out.ext (Al.drew W2)) (C2.out.ext (Al.drew W2)));have hS1:=A4 (hSw _ (An.setRow_other (C7.out.ext (Al.drew W2)) #[.int .i64 fk,.int .i64 k1,.int .i64 fa] (show w.heap.size+1+1+1+1≠w.heap.size+1+1 by omega)) (An.setRow_other (C2.out.ext (Al.drew W2)) #[.int .i64 fk,.int .i64 k1,.int .i64 fa] (show w.heap.size≠w.heap.size+1+1 by omega)))
   have hS2:=A4 (hSw _ (An.setRow_other (An.setRow_other (C7.out.ext (Al.drew W2)) #[.int .i64 fk,.int .i64 k1,.int .i64 fa] (show w.heap.size+1+1+1+1≠w.heap.size+1+1 by omega)) #[.int .i64 fk,.int .i64 fa] (show w.heap.size+1+1+1+1≠w.heap.size+1+1+1 by omega)) (An.setRow_other (An.setRow_other (C2.out.ext (Al.drew W2)) #[.int .i64 fk,.int .i64 k1,.int .i64 fa] (show w.heap.size≠w.heap.size+1+1 by omega)) #[.int .i64 fk,.int .i64 fa] (show w.heap.size≠w.heap.size+1+1+1 by omega))))
 clear hSw
 first
  |(
   guard_hyp N1
   refine wp_region_held_drew (S:=fun w'=>w'.cell? ⟨w.heap.size+1+1+1+1,0,none⟩=some (.int .i64 (bits .xor .i64 fk 32))∧w'.cell? ⟨w.heap.size+1+1+1+1,1,none⟩=some (.int .i64 k1)∧w'.cell? ⟨w.heap.size+1+1+1+1,2,none⟩=some (.int .i64 fa)∧w'.cell? ⟨w.heap.size,0,none⟩=some (.int .i64 fk)∧w'.cell? ⟨w.heap.size,1,none⟩=some (.int .i64 fa)) (by kernel_rfl) hS0.out (fun hHeld=>?_)
   refine Bo (i:=0) (v:=(.agg #[.int .i64 (bits .xor .i64 fk 32),.int .i64 k1,.int .i64 fa])) rfl hHeld ?_)
  |(
   refine wp_region_held_drew (S:=fun w'=>w'.cell? ⟨w.heap.size+1+1+1+1,0,none⟩=some (.int .i64 fk)∧w'.cell? ⟨w.heap.size+1+1+1+1,1,none⟩=some (.int .i64 k1)∧w'.cell? ⟨w.heap.size+1+1+1+1,2,none⟩=some (.int .i64 fa)∧w'.cell? ⟨w.heap.size,0,none⟩=some (.int .i64 fk)∧w'.cell? ⟨w.heap.size,1,none⟩=some (.int .i64 fa)) (by kernel_rfl) hS0.out (fun hHeld=>?_)
   refine Bo (i:=0) (v:=(.agg #[.int .i64 fk,.int .i64 k1,.int .i64 fa])) rfl hHeld ?_)
 refine Bo (i:=1) (v:=(.agg #[.int .i64 fk,.int .i64 fa])) rfl hHeld ?_
 refine wpAnyH_ready (rs:=[2]) (by kernel_rfl) (by simp) ?_
 refine AllReadyH.cons rfl (fun K hK=>?_) AllReadyH.nil
 first
  |(
   guard_hyp N1
   refine Bv rfl 202 (.tmp 4) (.tmp 49) rfl (w.heap.size+1+1) 0 #[.int .i64 (bits .xor .i64 fk 32),.int .i64 k1,.int .i64 fa] rfl rfl 202 #[.int .i64 0,.int .i64 0,.int .i64 0] (D4.out.ext (Al.drew _)) Ej (Nat.le_refl _) (by simp[Value.oneCell']) ?_)
  |(
   refine Bv rfl 202 (.tmp 4) (.tmp 49) rfl (w.heap.size+1+1) 0 #[.int .i64 fk,.int .i64 k1,.int .i64 fa] rfl rfl 202 #[.int .i64 0,.int .i64 0,.int .i64 0] (C4.out.ext (Al.drew _)) Ej (Nat.le_refl _) (by simp[Value.oneCell']) ?_)
 refine hK.out _ _ hS1.out (fun hHeld2=>?_)
 clear hK K hHeld
 try simp only[List.getElem_toArray,List.getElem_cons_zero,List.getElem_cons_succ,Act.put,List.setIfInBounds_toArray,List.set_cons_zero,List.set_cons_succ]
 refine wpAnyH_ready (rs:=[3]) (by kernel_rfl) (by simp) ?_
 refine AllReadyH.cons rfl (fun K hK=>?_) AllReadyH.nil
 first
  |(
   guard_hyp N1
   refine Bv rfl 38 (.tmp 5) (.tmp 50) rfl (w.heap.size+1+1+1) 0 #[.int .i64 fk,.int .i64 fa] rfl rfl 38 #[.int .i64 0,.int .i64 0] (An.setRow_other (D5.out.ext (Al.drew _)) _ (by omega)) Dg (Nat.le_refl _) (by simp[Value.oneCell']) ?_)
  |(
   refine Bv rfl 38 (.tmp 5) (.tmp 50) rfl (w.heap.size+1+1+1) 0 #[.int .i64 fk,.int .i64 fa] rfl rfl 38 #[.int .i64 0,.int .i64 0] (An.setRow_other (C5.out.ext (Al.drew _)) _ (by omega)) Dg (Nat.le_refl _) (by simp[Value.oneCell']) ?_)
 refine hK.out _ _ hS2.out (fun hHeld3=>?_)
 clear hK K hHeld2
 try simp only[List.getElem_toArray,List.getElem_cons_zero,List.getElem_cons_succ,Act.put,List.setIfInBounds_toArray,List.set_cons_zero,List.set_cons_succ]
 refine Bo (i:=4) (v:=(.int .i64 0)) rfl hHeld3 ?_
 refine wpAnyH_done (by kernel_rfl) ?_ _
 go_wp2_with fail
 first
  |(
   guard_hyp N1
   refine bodyPost_ret (v:=.tuple #[.agg #[.int .i64 (bits .xor .i64 fk 32),.int .i64 k1,.int .i64 fa],.agg #[.int .i64 fk,.int .i64 fa],.int .i64 0]) ?_ rfl ⟨⟨_,_,_,_,_,rfl,.inl ⟨rfl,by unfold Gl;rw[if_neg (by decide),if_neg (by decide),if_pos rfl,if_neg hf]⟩⟩,Al.setRow (Al.setRow (DX.out.trans (Al.drew _)) (by omega) _) (by omega) _⟩
   exact Fw rfl _ _ (w.heap.size+1+1) (w.heap.size+1+1+1) 202 38 _ _ _ _ _ _ _ rfl rfl rfl (An.setRow_other (An.setRow (D4.out.ext (Al.drew _)) _) _ (by omega)) (An.setRow (An.setRow_other (D5.out.ext (Al.drew _)) _ (by omega)) _) Tryz.underlying202 rfl Ej Tryz.underlying38 rfl Dg)
  |(
   refine bodyPost_ret (v:=.tuple #[.agg #[.int .i64 fk,.int .i64 k1,.int .i64 fa],.agg #[.int .i64 fk,.int .i64 fa],.int .i64 0]) ?_ rfl ⟨⟨_,_,_,_,_,rfl,.inl ⟨rfl,by unfold Gl;rw[if_neg (by decide),if_pos rfl,if_neg hf]⟩⟩,Al.setRow (Al.setRow (CX.out.trans (Al.drew _)) (by omega) _) (by omega) _⟩
   exact Fw rfl _ _ (w.heap.size+1+1) (w.heap.size+1+1+1) 202 38 _ _ _ _ _ _ _ rfl rfl rfl (An.setRow_other (An.setRow (C4.out.ext (Al.drew _)) _) _ (by omega)) (An.setRow (An.setRow_other (C5.out.ext (Al.drew _)) _ (by omega)) _) Tryz.underlying202 rfl Ej Tryz.underlying38 rfl Dg)):p:=h
theorem K2 (h:p:=by
 first
  |(
   guard_hyp N1
   go_simp
   replace hb:=hb.ext (Al.alloc W0 (.cells #[.int .i64 0,.int .i64 0,.int .i64 0] 202));have h3:=An.new W0 202 #[.int .i64 0,.int .i64 0,.int .i64 0];have hp3:w.heap.size≤W0.heap.size:=hx.hsize;replace hx:=hx.to_alloc (.cells #[.int .i64 0,.int .i64 0,.int .i64 0] 202);generalize W0.heap.size=p3 at*;generalize W0.alloc (.cells #[.int .i64 0,.int .i64 0,.int .i64 0] 202)=W1 at *)
  |(
   guard_hyp N2
   go_simp
   replace hb:=hb.ext (Al.alloc W0 (.cells #[.int .i64 0,.int .i64 0] 38));have h4:=An.new W0 38 #[.int .i64 0,.int .i64 0];have hp4:w.heap.size≤W0.heap.size:=hx.hsize;replace hx:=hx.to_alloc (.cells #[.int .i64 0,.int .i64 0] 38);generalize W0.heap.size=p4 at*;generalize W0.alloc (.cells #[.int .i64 0,.int .i64 0] 38)=W1 at *)
  |(
   refine Bs rfl 127 #[.agg #[.int .i64 fk,.int .i64 fa],.agg #[.int .i64 k1,.int .i64 k2,.int .i64 k3,.int .i64 k4,.int .i64 k5]] rfl (by kernel_rfl) (fun v w'=>∃mk ma zk za er:Int,v=.tuple #[.agg #[.int .i64 mk,.int .i64 k1,.int .i64 ma],.agg #[.int .i64 zk,.int .i64 za],.int .i64 er]∧Q4 fk fa k4 k5 mk ma zk za er∧Al W0 w') ((Lt W0).mono fun e w' ⟨⟨mk,ma,zk,za,er,h1,h2⟩,h3⟩=>⟨_,h1,mk,ma,zk,za,er,rfl,h2,h3⟩) ?_
   rintro v W1 ⟨mk,ma,zk,za,er,rfl,hF,hxc⟩;replace hx:=hx.trans hxc;replace hb:=hb.ext hxc;clear hxc)
 refine hK.out _ _ hb (fun hHeld1=>?_)
 clear hK K hHeld
 try simp only[List.getElem_toArray,List.getElem_cons_zero,List.getElem_cons_succ,Act.put,List.setIfInBounds_toArray,List.set_cons_zero,List.set_cons_succ]
 first
  |(
   guard_hyp N1
   refine wpAnyH_ready (rs:=[9,15]) (by kernel_rfl) (by simp) ?_)
  |(
   guard_hyp N2
   refine wpAnyH_ready (rs:=[9,14]) (by kernel_rfl) (by simp) ?_)
  |(
   refine B8 (i:=10) (v:=(.tuple #[.agg #[.int .i64 mk,.int .i64 k1,.int .i64 ma],.agg #[.int .i64 zk,.int .i64 za],.int .i64 er])) rfl hHeld1 ?_
   refine B8 (i:=11) (v:=(.agg #[.int .i64 mk,.int .i64 k1,.int .i64 ma])) rfl hHeld1 ?_
   refine B8 (i:=12) (v:=(.agg #[.int .i64 zk,.int .i64 za])) rfl hHeld1 ?_
   refine B8 (i:=13) (v:=(.int .i64 er)) rfl hHeld1 ?_
   refine wpAnyH_ready (rs:=[14,15]) (by kernel_rfl) (by simp) ?_)
 refine AllReadyH.cons rfl (fun K hK=>?_) (AllReadyH.cons rfl (fun K hK=>?_) (AllReadyH.nil))
 ·first
   |(
    guard_hyp N1
    refine Bs rfl 127 #[.agg #[.int .i64 fk,.int .i64 fa],.agg #[.int .i64 k1,.int .i64 k2,.int .i64 k3,.int .i64 k4,.int .i64 k5]] rfl (by kernel_rfl) (fun v w'=>∃mk ma zk za er:Int,v=.tuple #[.agg #[.int .i64 mk,.int .i64 k1,.int .i64 ma],.agg #[.int .i64 zk,.int .i64 za],.int .i64 er]∧Q4 fk fa k4 k5 mk ma zk za er∧Al W1 w') ((Lt W1).mono fun e w' ⟨⟨mk,ma,zk,za,er,h1,h2⟩,h3⟩=>⟨_,h1,mk,ma,zk,za,er,rfl,h2,h3⟩) ?_
    rintro v W2 ⟨mk,ma,zk,za,er,rfl,hF,hxc⟩;replace hx:=hx.trans hxc;replace hb:=hb.ext hxc;replace h3:=h3.ext hxc;clear hxc)
   |(
    guard_hyp N2
    refine Bs rfl 127 #[.agg #[.int .i64 fk,.int .i64 fa],.agg #[.int .i64 k1,.int .i64 k2,.int .i64 k3,.int .i64 k4,.int .i64 k5]] rfl (by kernel_rfl) (fun v w'=>∃mk ma zk za er:Int,v=.tuple #[.agg #[.int .i64 mk,.int .i64 k1,.int .i64 ma],.agg #[.int .i64 zk,.int .i64 za],.int .i64 er]∧Q4 fk fa k4 k5 mk ma zk za er∧Al W1 w') ((Lt W1).mono fun e w' ⟨⟨mk,ma,zk,za,er,h1,h2⟩,h3⟩=>⟨_,h1,mk,ma,zk,za,er,rfl,h2,h3⟩) ?_
    rintro v W2 ⟨mk,ma,zk,za,er,rfl,hF,hxc⟩;replace hx:=hx.trans hxc;replace hb:=hb.ext hxc;replace h4:=h4.ext hxc;clear hxc)
   |(
    go_simp
    replace hb:=hb.ext (Al.alloc W1 (.cells #[.int .i64 0,.int .i64 0,.int .i64 0] 202));have h3:=An.new W1 202 #[.int .i64 0,.int .i64 0,.int .i64 0];have hp3:w.heap.size≤W1.heap.size:=hx.hsize;replace hx:=hx.to_alloc (.cells #[.int .i64 0,.int .i64 0,.int .i64 0] 202);generalize W1.heap.size=p3 at*;generalize W1.alloc (.cells #[.int .i64 0,.int .i64 0,.int .i64 0] 202)=W2 at *)
  refine hK.out _ _ hb (fun hHeld2=>?_)
  clear hK K hHeld1
  try simp only[List.getElem_toArray,List.getElem_cons_zero,List.getElem_cons_succ,Act.put,List.setIfInBounds_toArray,List.set_cons_zero,List.set_cons_succ]
  first
   |(
    guard_hyp N1
    refine B8 (i:=10) (v:=(.tuple #[.agg #[.int .i64 mk,.int .i64 k1,.int .i64 ma],.agg #[.int .i64 zk,.int .i64 za],.int .i64 er])) rfl hHeld2 ?_
    refine B8 (i:=11) (v:=(.agg #[.int .i64 mk,.int .i64 k1,.int .i64 ma])) rfl hHeld2 ?_
    refine B8 (i:=12) (v:=(.agg #[.int .i64 zk,.int .i64 za])) rfl hHeld2 ?_
    refine B8 (i:=13) (v:=(.int .i64 er)) rfl hHeld2 ?_
    refine wpAnyH_ready (rs:=[15]) (by kernel_rfl) (by simp) ?_)
   |(
    guard_hyp N2
    refine B8 (i:=10) (v:=(.tuple #[.agg #[.int .i64 mk,.int .i64 k1,.int .i64 ma],.agg #[.int .i64 zk,.int .i64 za],.int .i64 er])) rfl hHeld2 ?_
    refine B8 (i:=11) (v:=(.agg #[.int .i64 mk,.int .i64 k1,.int .i64 ma])) rfl hHeld2 ?_
    refine B8 (i:=12) (v:=(.agg #[.int .i64 zk,.int .i64 za])) rfl hHeld2 ?_
    refine B8 (i:=13) (v:=(.int .i64 er)) rfl hHeld2 ?_
    refine wpAnyH_ready (rs:=[14]) (by kernel_rfl) (by simp) ?_)
   |(
    refine wpAnyH_ready (rs:=[15]) (by kernel_rfl) (by simp) ?_)
  refine AllReadyH.cons rfl (fun K hK=>?_) (AllReadyH.nil)
  ·go_simp
   first
    |(
     guard_hyp N2
     replace hb:=hb.ext (Al.alloc W2 (.cells #[.int .i64 0,.int .i64 0,.int .i64 0] 202));have hne:W2.heap.size≠p4:=by have:=h4.lt;omega
     replace h4:=h4.ext (Al.alloc W2 (.cells #[.int .i64 0,.int .i64 0,.int .i64 0] 202));have h3:=An.new W2 202 #[.int .i64 0,.int .i64 0,.int .i64 0];have hp3:w.heap.size≤W2.heap.size:=hx.hsize;replace hx:=hx.to_alloc (.cells #[.int .i64 0,.int .i64 0,.int .i64 0] 202);generalize W2.heap.size=p3 at*;generalize W2.alloc (.cells #[.int .i64 0,.int .i64 0,.int .i64 0] 202)=W3 at *)
    |(
     replace hb:=hb.ext (Al.alloc W2 (.cells #[.int .i64 0,.int .i64 0] 38));have hne:p3≠W2.heap.size:=by have:=h3.lt;omega
     replace h3:=h3.ext (Al.alloc W2 (.cells #[.int .i64 0,.int .i64 0] 38));have h4:=An.new W2 38 #[.int .i64 0,.int .i64 0];have hp4:w.heap.size≤W2.heap.size:=hx.hsize;replace hx:=hx.to_alloc (.cells #[.int .i64 0,.int .i64 0] 38);generalize W2.heap.size=p4 at*;generalize W2.alloc (.cells #[.int .i64 0,.int .i64 0] 38)=W3 at *)
   refine hK.out _ _ hb (fun hHeld3=>?_)
   clear hK K hHeld2
   try simp only[List.getElem_toArray,List.getElem_cons_zero,List.getElem_cons_succ,Act.put,List.setIfInBounds_toArray,List.set_cons_zero,List.set_cons_succ]
   refine wpAnyH_ready (rs:=[16]) (by kernel_rfl) (by simp) ?_
   refine AllReadyH.cons rfl (fun K hK=>?_) (AllReadyH.nil)
   ·refine Bv rfl 202 (.tmp 3) (.tmp 23) rfl p3 0 #[.int .i64 mk,.int .i64 k1,.int .i64 ma] rfl rfl 202 #[.int .i64 0,.int .i64 0,.int .i64 0] h3 Ej (Nat.le_refl _) (by simp[Value.oneCell']) ?_
    have hxs:Al w (W3.setRow p3 #[.int .i64 mk,.int .i64 k1,.int .i64 ma]):=Al.setRow hx hp3 _;have hbs:An (W3.setRow p3 #[.int .i64 mk,.int .i64 k1,.int .i64 ma]) g 185 cs:=An.setRow_other hb _ (by have:=HB.out.lt;omega)
    have hs3:An (W3.setRow p3 #[.int .i64 mk,.int .i64 k1,.int .i64 ma]) p3 202 #[.int .i64 mk,.int .i64 k1,.int .i64 ma]:=An.setRow h3 _;have hs4:An (W3.setRow p3 #[.int .i64 mk,.int .i64 k1,.int .i64 ma]) p4 38 #[.int .i64 0,.int .i64 0]:=An.setRow_other h4 _ (by omega)
    change K _ (W3.setRow p3 #[.int .i64 mk,.int .i64 k1,.int .i64 ma]);clear hx hb h3 h4;generalize W3.setRow p3 #[.int .i64 mk,.int .i64 k1,.int .i64 ma]=W4 at*;have hx:=hxs;have hb:=hbs;have h3:=hs3;have h4:=hs4;clear hxs hbs hs3 hs4;refine hK.out _ _ hb (fun hHeld4=>?_)
    clear hK K hHeld3
    try simp only[List.getElem_toArray,List.getElem_cons_zero,List.getElem_cons_succ,Act.put,List.setIfInBounds_toArray,List.set_cons_zero,List.set_cons_succ]
    refine wpAnyH_ready (rs:=[17]) (by kernel_rfl) (by simp) ?_
    refine AllReadyH.cons rfl (fun K hK=>?_) (AllReadyH.nil)
    ·refine Bv rfl 38 (.tmp 4) (.tmp 24) rfl p4 0 #[.int .i64 zk,.int .i64 za] rfl rfl 38 #[.int .i64 0,.int .i64 0] h4 Dg (Nat.le_refl _) (by simp[Value.oneCell']) ?_
     have hxs:Al w (W4.setRow p4 #[.int .i64 zk,.int .i64 za]):=Al.setRow hx hp4 _;have hbs:An (W4.setRow p4 #[.int .i64 zk,.int .i64 za]) g 185 cs:=An.setRow_other hb _ (by have:=HB.out.lt;omega)
     have hs4:An (W4.setRow p4 #[.int .i64 zk,.int .i64 za]) p4 38 #[.int .i64 zk,.int .i64 za]:=An.setRow h4 _;have hs3:An (W4.setRow p4 #[.int .i64 zk,.int .i64 za]) p3 202 #[.int .i64 mk,.int .i64 k1,.int .i64 ma]:=An.setRow_other h3 _ (by omega)
     change K _ (W4.setRow p4 #[.int .i64 zk,.int .i64 za]);clear hx hb h4 h3;generalize W4.setRow p4 #[.int .i64 zk,.int .i64 za]=W5 at*;have hx:=hxs;have hb:=hbs;have h4:=hs4;have h3:=hs3;clear hxs hbs hs4 hs3;refine hK.out _ _ hb (fun hHeld5=>?_)
     clear hK K hHeld4
     try simp only[List.getElem_toArray,List.getElem_cons_zero,List.getElem_cons_succ,Act.put,List.setIfInBounds_toArray,List.set_cons_zero,List.set_cons_succ]
     refine B8 (i:=18) (v:=(.int .i64 er)) rfl hHeld5 ?_
     refine wpAnyH_done (by kernel_rfl) ?_ _
     try go_wp2_with fail
     go_meet
     exact⟨p3,p4,mk,ma,zk,za,er,rfl,rfl,rfl,hp3,hp4,hne,A4 h3,A4 h4,A4 hF,A4 hx⟩
 ·go_simp
  first
   |(
    guard_hyp N1
    replace hb:=hb.ext (Al.alloc W1 (.cells #[.int .i64 0,.int .i64 0] 38));have hne:p3≠W1.heap.size:=by have:=h3.lt;omega
    replace h3:=h3.ext (Al.alloc W1 (.cells #[.int .i64 0,.int .i64 0] 38));have h4:=An.new W1 38 #[.int .i64 0,.int .i64 0];have hp4:w.heap.size≤W1.heap.size:=hx.hsize;replace hx:=hx.to_alloc (.cells #[.int .i64 0,.int .i64 0] 38);generalize W1.heap.size=p4 at*;generalize W1.alloc (.cells #[.int .i64 0,.int .i64 0] 38)=W2 at *)
   |(
    guard_hyp N2
    replace hb:=hb.ext (Al.alloc W1 (.cells #[.int .i64 0,.int .i64 0,.int .i64 0] 202));have hne:W1.heap.size≠p4:=by have:=h4.lt;omega
    replace h4:=h4.ext (Al.alloc W1 (.cells #[.int .i64 0,.int .i64 0,.int .i64 0] 202));have h3:=An.new W1 202 #[.int .i64 0,.int .i64 0,.int .i64 0];have hp3:w.heap.size≤W1.heap.size:=hx.hsize;replace hx:=hx.to_alloc (.cells #[.int .i64 0,.int .i64 0,.int .i64 0] 202);generalize W1.heap.size=p3 at*;generalize W1.alloc (.cells #[.int .i64 0,.int .i64 0,.int .i64 0] 202)=W2 at *)
   |(
    replace hb:=hb.ext (Al.alloc W1 (.cells #[.int .i64 0,.int .i64 0] 38));have h4:=An.new W1 38 #[.int .i64 0,.int .i64 0];have hp4:w.heap.size≤W1.heap.size:=hx.hsize;replace hx:=hx.to_alloc (.cells #[.int .i64 0,.int .i64 0] 38);generalize W1.heap.size=p4 at*;generalize W1.alloc (.cells #[.int .i64 0,.int .i64 0] 38)=W2 at *)
  refine hK.out _ _ hb (fun hHeld2=>?_)
  clear hK K hHeld1
  try simp only[List.getElem_toArray,List.getElem_cons_zero,List.getElem_cons_succ,Act.put,List.setIfInBounds_toArray,List.set_cons_zero,List.set_cons_succ]
  first
   |(
    guard_hyp N0
    refine wpAnyH_ready (rs:=[14]) (by kernel_rfl) (by simp) ?_)
   |(
    refine wpAnyH_ready (rs:=[9]) (by kernel_rfl) (by simp) ?_)
  refine AllReadyH.cons rfl (fun K hK=>?_) (AllReadyH.nil)
  ·first
    |(
     guard_hyp N0
     go_simp
     replace hb:=hb.ext (Al.alloc W2 (.cells #[.int .i64 0,.int .i64 0,.int .i64 0] 202));have hne:W2.heap.size≠p4:=by have:=h4.lt;omega
     replace h4:=h4.ext (Al.alloc W2 (.cells #[.int .i64 0,.int .i64 0,.int .i64 0] 202));have h3:=An.new W2 202 #[.int .i64 0,.int .i64 0,.int .i64 0];have hp3:w.heap.size≤W2.heap.size:=hx.hsize;replace hx:=hx.to_alloc (.cells #[.int .i64 0,.int .i64 0,.int .i64 0] 202);generalize W2.heap.size=p3 at*;generalize W2.alloc (.cells #[.int .i64 0,.int .i64 0,.int .i64 0] 202)=W3 at *)
    |(
     refine Bs rfl 127 #[.agg #[.int .i64 fk,.int .i64 fa],.agg #[.int .i64 k1,.int .i64 k2,.int .i64 k3,.int .i64 k4,.int .i64 k5]] rfl (by kernel_rfl) (fun v w'=>∃mk ma zk za er:Int,v=.tuple #[.agg #[.int .i64 mk,.int .i64 k1,.int .i64 ma],.agg #[.int .i64 zk,.int .i64 za],.int .i64 er]∧Q4 fk fa k4 k5 mk ma zk za er∧Al W2 w') ((Lt W2).mono fun e w' ⟨⟨mk,ma,zk,za,er,h1,h2⟩,h3⟩=>⟨_,h1,mk,ma,zk,za,er,rfl,h2,h3⟩) ?_
     rintro v W3 ⟨mk,ma,zk,za,er,rfl,hF,hxc⟩;replace hx:=hx.trans hxc;replace hb:=hb.ext hxc;replace h3:=h3.ext hxc;replace h4:=h4.ext hxc;clear hxc)
   refine hK.out _ _ hb (fun hHeld3=>?_)
   clear hK K hHeld2
   try simp only[List.getElem_toArray,List.getElem_cons_zero,List.getElem_cons_succ,Act.put,List.setIfInBounds_toArray,List.set_cons_zero,List.set_cons_succ]
   first
    |guard_hyp N0
    |(
     refine B8 (i:=10) (v:=(.tuple #[.agg #[.int .i64 mk,.int .i64 k1,.int .i64 ma],.agg #[.int .i64 zk,.int .i64 za],.int .i64 er])) rfl hHeld3 ?_
     refine B8 (i:=11) (v:=(.agg #[.int .i64 mk,.int .i64 k1,.int .i64 ma])) rfl hHeld3 ?_
     refine B8 (i:=12) (v:=(.agg #[.int .i64 zk,.int .i64 za])) rfl hHeld3 ?_
     refine B8 (i:=13) (v:=(.int .i64 er)) rfl hHeld3 ?_)
   refine wpAnyH_ready (rs:=[16]) (by kernel_rfl) (by simp) ?_
   refine AllReadyH.cons rfl (fun K hK=>?_) (AllReadyH.nil)
   ·refine Bv rfl 202 (.tmp 3) (.tmp 23) rfl p3 0 #[.int .i64 mk,.int .i64 k1,.int .i64 ma] rfl rfl 202 #[.int .i64 0,.int .i64 0,.int .i64 0] h3 Ej (Nat.le_refl _) (by simp[Value.oneCell']) ?_
    have hxs:Al w (W3.setRow p3 #[.int .i64 mk,.int .i64 k1,.int .i64 ma]):=Al.setRow hx hp3 _;have hbs:An (W3.setRow p3 #[.int .i64 mk,.int .i64 k1,.int .i64 ma]) g 185 cs:=An.setRow_other hb _ (by have:=HB.out.lt;omega)
    have hs3:An (W3.setRow p3 #[.int .i64 mk,.int .i64 k1,.int .i64 ma]) p3 202 #[.int .i64 mk,.int .i64 k1,.int .i64 ma]:=An.setRow h3 _;have hs4:An (W3.setRow p3 #[.int .i64 mk,.int .i64 k1,.int .i64 ma]) p4 38 #[.int .i64 0,.int .i64 0]:=An.setRow_other h4 _ (by omega)
    change K _ (W3.setRow p3 #[.int .i64 mk,.int .i64 k1,.int .i64 ma]);clear hx hb h3 h4;generalize W3.setRow p3 #[.int .i64 mk,.int .i64 k1,.int .i64 ma]=W4 at*;have hx:=hxs;have hb:=hbs;have h3:=hs3;have h4:=hs4;clear hxs hbs hs3 hs4;refine hK.out _ _ hb (fun hHeld4=>?_)
    clear hK K hHeld3
    try simp only[List.getElem_toArray,List.getElem_cons_zero,List.getElem_cons_succ,Act.put,List.setIfInBounds_toArray,List.set_cons_zero,List.set_cons_succ]
    refine wpAnyH_ready (rs:=[17]) (by kernel_rfl) (by simp) ?_
    refine AllReadyH.cons rfl (fun K hK=>?_) (AllReadyH.nil)
    ·refine Bv rfl 38 (.tmp 4) (.tmp 24) rfl p4 0 #[.int .i64 zk,.int .i64 za] rfl rfl 38 #[.int .i64 0,.int .i64 0] h4 Dg (Nat.le_refl _) (by simp[Value.oneCell']) ?_
     have hxs:Al w (W4.setRow p4 #[.int .i64 zk,.int .i64 za]):=Al.setRow hx hp4 _;have hbs:An (W4.setRow p4 #[.int .i64 zk,.int .i64 za]) g 185 cs:=An.setRow_other hb _ (by have:=HB.out.lt;omega)
     have hs4:An (W4.setRow p4 #[.int .i64 zk,.int .i64 za]) p4 38 #[.int .i64 zk,.int .i64 za]:=An.setRow h4 _;have hs3:An (W4.setRow p4 #[.int .i64 zk,.int .i64 za]) p3 202 #[.int .i64 mk,.int .i64 k1,.int .i64 ma]:=An.setRow_other h3 _ (by omega)
     change K _ (W4.setRow p4 #[.int .i64 zk,.int .i64 za]);clear hx hb h4 h3;generalize W4.setRow p4 #[.int .i64 zk,.int .i64 za]=W5 at*;have hx:=hxs;have hb:=hbs;have h4:=hs4;have h3:=hs3;clear hxs hbs hs4 hs3;refine hK.out _ _ hb (fun hHeld5=>?_)
     clear hK K hHeld4
     try simp only[List.getElem_toArray,List.getElem_cons_zero,List.getElem_cons_succ,Act.put,List.setIfInBounds_toArray,List.set_cons_zero,List.set_cons_succ]
     refine B8 (i:=18) (v:=(.int .i64 er)) rfl hHeld5 ?_
     refine wpAnyH_done (by kernel_rfl) ?_ _
     try go_wp2_with fail
     go_meet
     exact⟨p3,p4,mk,ma,zk,za,er,rfl,rfl,rfl,hp3,hp4,hne,A4 h3,A4 h4,A4 hF,A4 hx⟩):p:=h
theorem K3 (h:p:=by
 first
  |(
   guard_hyp N1
   have hk:k4=70:=by simpa using ‹(k4==70)=true›)
  |(
   guard_hyp N2
   have hk:k4=116:=by simpa using ‹(k4==116)=true›)
  |(
   guard_hyp N3
   have hk:k4=84:=by simpa using ‹(k4==84)=true›)
  |(
   have hk:k4=102:=by simpa using ‹(k4==102)=true›)
 have hSw:∀wx,An wx (w.heap.size+1+1+1+1) 202 #[.int .i64 k4,.int .i64 k1,.int .i64 k5]→An wx (w.heap.size+1) 87 #[.int .i64 k1,.int .i64 k2,.int .i64 k3,.int .i64 k4,.int .i64 k5]→wx.cell? ⟨w.heap.size+1+1+1+1,0,none⟩=some (.int .i64 k4)∧wx.cell? ⟨w.heap.size+1+1+1+1,1,none⟩=some (.int .i64 k1)∧wx.cell? ⟨w.heap.size+1+1+1+1,2,none⟩=some (.int .i64 k5)∧wx.cell? ⟨w.heap.size+1,3,none⟩=some (.int .i64 k4)∧wx.cell? ⟨w.heap.size+1,4,none⟩=some (.int .i64 k5):=fun wx h7 h2=>⟨(G9 h7).1,(G9 h7).2.1,(G9 h7).2.2,h2.cell 3,h2.cell 4⟩
 have hS0:=A4 (hSw _ (B7.out.ext (Al.drew W0)) (B3.out.ext (Al.drew W0)));have hS1:=A4 (hSw _ (An.setRow_other (B7.out.ext (Al.drew W0)) #[.int .i64 k4,.int .i64 k1,.int .i64 k5] (show w.heap.size+1+1+1+1≠w.heap.size+1+1 by omega)) (An.setRow_other (B3.out.ext (Al.drew W0)) #[.int .i64 k4,.int .i64 k1,.int .i64 k5] (show w.heap.size+1≠w.heap.size+1+1 by omega)))
 have hS2:=A4 (hSw _ (An.setRow_other (An.setRow_other (B7.out.ext (Al.drew W0)) #[.int .i64 k4,.int .i64 k1,.int .i64 k5] (show w.heap.size+1+1+1+1≠w.heap.size+1+1 by omega)) #[.int .i64 k4,.int .i64 k5] (show w.heap.size+1+1+1+1≠w.heap.size+1+1+1 by omega)) (An.setRow_other (An.setRow_other (B3.out.ext (Al.drew W0)) #[.int .i64 k4,.int .i64 k1,.int .i64 k5] (show w.heap.size+1≠w.heap.size+1+1 by omega)) #[.int .i64 k4,.int .i64 k5] (show w.heap.size+1≠w.heap.size+1+1+1 by omega)))
 clear hSw;refine wp_region_held_drew (S:=fun w'=>w'.cell? ⟨w.heap.size+1+1+1+1,0,none⟩=some (.int .i64 k4)∧w'.cell? ⟨w.heap.size+1+1+1+1,1,none⟩=some (.int .i64 k1)∧w'.cell? ⟨w.heap.size+1+1+1+1,2,none⟩=some (.int .i64 k5)∧w'.cell? ⟨w.heap.size+1,3,none⟩=some (.int .i64 k4)∧w'.cell? ⟨w.heap.size+1,4,none⟩=some (.int .i64 k5)) (by kernel_rfl) hS0.out (fun hHeld=>?_)
 refine Bo (i:=0) (v:=(.agg #[.int .i64 k4,.int .i64 k1,.int .i64 k5])) rfl hHeld ?_
 refine Bo (i:=1) (v:=(.pointer (some ⟨w.heap.size+1,3,none⟩))) rfl hHeld ?_
 refine Bo (i:=2) (v:=(.int .i64 k4)) rfl hHeld ?_
 refine Bo (i:=3) (v:=(.pointer (some ⟨w.heap.size+1,4,none⟩))) rfl hHeld ?_
 refine Bo (i:=4) (v:=(.int .i64 k5)) rfl hHeld ?_
 refine Bo (i:=5) (v:=(.agg #[.int .i64 k4,.int .i64 k5])) rfl hHeld ?_
 refine wpAnyH_ready (rs:=[6]) (by kernel_rfl) (by simp) ?_
 refine AllReadyH.cons rfl (fun K hK=>?_) AllReadyH.nil
 refine Bv rfl 202 (.tmp 4) (.tmp 22) rfl (w.heap.size+1+1) 0 #[.int .i64 k4,.int .i64 k1,.int .i64 k5] rfl rfl 202 #[.int .i64 0,.int .i64 0,.int .i64 0] (B4.out.ext (Al.drew _)) Ej (Nat.le_refl _) (by simp[Value.oneCell']) ?_
 refine hK.out _ _ hS1.out (fun hHeld2=>?_)
 clear hK K hHeld
 try simp only[List.getElem_toArray,List.getElem_cons_zero,List.getElem_cons_succ,Act.put,List.setIfInBounds_toArray,List.set_cons_zero,List.set_cons_succ]
 refine wpAnyH_ready (rs:=[7]) (by kernel_rfl) (by simp) ?_
 refine AllReadyH.cons rfl (fun K hK=>?_) AllReadyH.nil
 refine Bv rfl 38 (.tmp 5) (.tmp 27) rfl (w.heap.size+1+1+1) 0 #[.int .i64 k4,.int .i64 k5] rfl rfl 38 #[.int .i64 0,.int .i64 0] (An.setRow_other (B5.out.ext (Al.drew _)) _ (by omega)) Dg (Nat.le_refl _) (by simp[Value.oneCell']) ?_
 refine hK.out _ _ hS2.out (fun hHeld3=>?_)
 clear hK K hHeld2
 try simp only[List.getElem_toArray,List.getElem_cons_zero,List.getElem_cons_succ,Act.put,List.setIfInBounds_toArray,List.set_cons_zero,List.set_cons_succ]
 refine Bo (i:=8) (v:=(.int .i64 0)) rfl hHeld3 ?_
 refine wpAnyH_done (by kernel_rfl) ?_ _
 go_wp2_with fail
 refine bodyPost_ret (v:=.tuple #[.agg #[.int .i64 k4,.int .i64 k1,.int .i64 k5],.agg #[.int .i64 k4,.int .i64 k5],.int .i64 0]) ?_ rfl ⟨⟨_,_,_,_,_,rfl,.inl ⟨rfl,by subst hk;rfl⟩⟩,Al.setRow (Al.setRow (HX.out.trans (Al.drew _)) (by omega) _) (by omega) _⟩
 exact Fw rfl _ _ (w.heap.size+1+1) (w.heap.size+1+1+1) 202 38 _ _ _ _ _ _ _ rfl rfl rfl (An.setRow_other (An.setRow (B4.out.ext (Al.drew _)) _) _ (by omega)) (An.setRow (An.setRow_other (B5.out.ext (Al.drew _)) _ (by omega)) _) Tryz.underlying202 rfl Ej Tryz.underlying38 rfl Dg):p:=h
theorem K4 (h:p:=by
 first
  |(
   guard_hyp N1
   have B6:An W5 W4.heap.size 87 (Ma (Cf c n)):=by unfold Cf;rw[if_neg hn0];exact B5
   have hn1:n≤0:=by omega
   clear hn0 B5;have X6:=X5';have B46:=B4';clear X5' B4')
  |(
   have g0:W5.cell? ⟨W4.heap.size,0,none⟩=some (.int .i64 c.count):=B5.cell 0;have f0:=B5.frozen 0;have B6:An (W5.setCell ⟨W4.heap.size,0,none⟩ (.int .i64 n)) W4.heap.size 87 (Ma (Cf c n)):=by
    have hh:=B5.set_ 0 (.int .i64 n);unfold Cf;rw[if_pos hn0];exact hh
   have X6:=X5'.setCell (p:=⟨W4.heap.size,0,none⟩) hz4 (.int .i64 n);have B46:=Bh (g':=W4.heap.size) B4' (fun e=>by have:=B4'.lt;have:=Ey B5 B4' (by decide);omega) 0 (.int .i64 n)
   clear X5' B4' B5)
 go_upto_region 6 with fail
 first
  |(
   guard_hyp N1
   have e0:W5.cell? ⟨W4.heap.size,0,none⟩=some (.int .i64 (Cf c n).count):=B6.cell 0;have e1:W5.cell? ⟨W4.heap.size,1,none⟩=some (.int .i64 (Cf c n).reg):=B6.cell 1;have e2:W5.cell? ⟨W4.heap.size,2,none⟩=some (.int .i64 (Cf c n).op):=B6.cell 2;have e3:W5.cell? ⟨W4.heap.size,3,none⟩=some (.int .i64 (Cf c n).verb):=B6.cell 3;have e4:W5.cell? ⟨W4.heap.size,4,none⟩=some (.int .i64 (Cf c n).arg):=B6.cell 4)
  |(
   generalize World.setCell W5 _ _=W6 at*;clear g0 f0 hn0;have e0:W6.cell? ⟨W4.heap.size,0,none⟩=some (.int .i64 (Cf c n).count):=B6.cell 0;have e1:W6.cell? ⟨W4.heap.size,1,none⟩=some (.int .i64 (Cf c n).reg):=B6.cell 1;have e2:W6.cell? ⟨W4.heap.size,2,none⟩=some (.int .i64 (Cf c n).op):=B6.cell 2;have e3:W6.cell? ⟨W4.heap.size,3,none⟩=some (.int .i64 (Cf c n).verb):=B6.cell 3;have e4:W6.cell? ⟨W4.heap.size,4,none⟩=some (.int .i64 (Cf c n).arg):=B6.cell 4)
 have HDo:=A4 (aR (c:=Cf c n) (H.out.ext X6) HWL.out HL.out HBB.out (by have:=HQ.out;omega) (fun d hd=>HZ.out _ d hd))
 first
  |(
   guard_hyp N1
   have HT6:Hid (Kp w col W5 col):=A4 ⟨X6.alt _,fun _ _ h=>h,fun _ _ h=>h⟩)
  |(
   have HT6:Hid (Kp w col W6 col):=A4 ⟨X6.alt _,fun _ _ h=>h,fun _ _ h=>h⟩)
 have HB46:=A4 B46;clear B6 X6 B46;unfold Ma at HDo;go_wp2_with fail
 refine HDo.out.mono ?_
 clear e0 e1 e2 e3 e4;rintro e W7 (⟨hdn,rfl,hdo⟩|⟨d,hdn,rfl,hdo⟩)
 ·have HR:Hid (Br p w col (Gr s n) W7):=A4 (by unfold Gr;rw[HS.out];simp only[hdn];exact Br.trans HT6.out hdo)
  clear hdn hdo HDo;exact I109
 ·obtain⟨col7,v7,hm7,ht7'⟩:=hdo
  have HT7:=A4 (HT6.out.trans ht7');have B47:=ht7'.1.blk HB46.out (fun hn=>hn.1 (H.out.ses.lt (Nat.le_refl _)))
  have d2:W7.cell? ⟨p,2,none⟩=some (.int .i64 (Ni s (Cf c n) d).mode):=hm7.ses.blk.cell 2;have HAF:Hid (Gr s n=if(Ni s (Cf c n) d).mode=0 then Ni s (Cf c n) d else Eb (keysF (Ni s (Cf c n) d) ks) 27):=A4 (by unfold Gr;rw[HS.out];simp only[hdn])
  by_cases hmo:(Ni s (Cf c n) d).mode=0
  ·rw[hmo]at d2
   have HR:Hid (Br p w col (Gr s n) W7):=A4 (by rw[HAF.out,if_pos hmo];exact⟨_,_,hm7,HT7.out⟩)
   clear hdn HDo hm7 ht7' B47 hmo;exact I109
  ·have hmb:((Ni s (Cf c n) d).mode==0)=false:=by simpa using hmo
   have HTK:=A4 (HD.out c ks d HS.out hdn hmo);have HI7:=A4 (HDI.out.trn HT7.out);have HM7:=A4 hm7;have HAF2:Hid (Gr s n=Eb (keysF (Ni s (Cf c n) d) ks) 27):=A4 (by rw[HAF.out,if_neg hmo])
   have e5:W7.cell? ⟨w.heap.size,5,none⟩=some (.slice A m k):=B47.cell 5;have hlen:ks.length=m:=HI7.out.here.len;have hm6:m≤2000000:=by have:=HKS.out.2;omega
   have HLEN:=A4 hlen;clear hdn HDo hm7 ht7' B47 hmo hlen;generalize Ni s (Cf c n) d=s7 at*;go_wp2_with fail
   go_loopw [41] (fun s41 wx=>∃i:Nat,i≤m∧s41=.int .i64 i∧Hid (Br p W7 col7 (keysF s7 (ks.take i)) wx)) (fun s41 _=>m-(intOf s41).toNat)
   case atStart=>exact⟨0,by omega,rfl,A4 ⟨col7,v7,HM7.out,Kp.refl _ _⟩⟩
   case round=>
    obtain⟨i,hi,rfl,HDs⟩:=hrel;by_cases hlt:i<m
    ·obtain⟨c8,v8,hm8,ht8⟩:=HDs.out
     have hin:=(HI7.out.trn ht8).here;obtain⟨ad,e,hc⟩:=hin.at_ (k:=i) hlt;subst e;have hci:=hc i hlt;have htk:=HTK.out.keysF (ks:=ks.take i) (fun x hx=>HKS.out.1 x (List.mem_of_mem_take hx))
     have hti:(ks.take i).length=i:=by rw[List.length_take];have:=HLEN.out;omega
     rw[hti]at htk;have HTy:=A4 (fun key=>Th (key:=key) hm8 htk.line htk.mode htk.keys (by omega) (by have:=htk.told;omega))
     have HT8:=A4 ht8;have hke:ks.take (i+1)=ks.take i++[gI ks i]:=by
      rw[List.take_add_one];have hlk:i<ks.length:=by have:=HLEN.out;omega
      unfold gI;rw[List.getElem?_eq_getElem hlk]
      rfl
     have HKE:=A4 hke;clear hc hin hm8 ht8 htk hti hke;go_wp2_with fail
     refine(HTy.out _).mono ?_
     rintro e W9 ⟨rfl,h9⟩;have H9:Hid (Br p W7 col7 (keysF s7 (ks.take (i+1))) W9):=A4 (by rw[HKE.out,iN];exact Br.trans HT8.out h9)
     clear h9 hci;go_wp2_with fail
     go_roundw
     case rel=>exact⟨i+1,by omega,by go_num,H9⟩
     case measure=>simp[intOf];omega
    ·obtain rfl:i=m:=by omega
     have hta:ks.take i=ks:=List.take_of_length_le (by have:=HLEN.out;omega)
     obtain⟨c8,v8,hm8,ht8⟩:=HDs.out;rw[hta]at hm8;have htk:=HTK.out.keysF (ks:=ks) HKS.out.1;have HTy:=A4 (Th (key:=27) hm8 htk.line htk.mode htk.keys (by have:=HKS.out.2;omega) (by have:=htk.told;have:=HKS.out.2;omega))
     have HT8:=A4 (HT7.out.trans ht8);clear hm8 ht8 htk hta;go_wp2_with fail
     refine HTy.out.mono ?_
     rintro e W9 ⟨rfl,h9⟩;have H9:Hid (Br p w col (Gr s n) W9):=A4 (by rw[HAF2.out];exact Br.trans HT8.out h9)
     clear h9;go_wp2_with fail
     go_end0
     exact⟨rfl,H9.out⟩):p:=h
theorem K5 (h:p:=by
 first
  |(
   guard_hyp N1
   have hk:k4=44:=by simpa using ‹(k4==44)=true›
   have hf:fk=0:=by simpa using ‹(fk==0)=true›)
  |(
   guard_hyp N2
   have h1:¬(k4=102∨k4=70∨k4=116∨k4=84):=by simp_all
   have h2:¬k4=59:=by simp_all
   have h3:¬k4=44:=by simp_all)
  |(
   have hk:k4=59:=by simpa using ‹(k4==59)=true›
   have hf:fk=0:=by simpa using ‹(fk==0)=true›)
 have hSw:∀wx,An wx (w.heap.size+1+1+1+1) 202 #[.int .i64 k4,.int .i64 k1,.int .i64 k5]→An wx (w.heap.size) 38 #[.int .i64 fk,.int .i64 fa]→wx.cell? ⟨w.heap.size+1+1+1+1,0,none⟩=some (.int .i64 k4)∧wx.cell? ⟨w.heap.size+1+1+1+1,1,none⟩=some (.int .i64 k1)∧wx.cell? ⟨w.heap.size+1+1+1+1,2,none⟩=some (.int .i64 k5)∧wx.cell? ⟨w.heap.size,0,none⟩=some (.int .i64 fk)∧wx.cell? ⟨w.heap.size,1,none⟩=some (.int .i64 fa):=fun wx h7 h2=>⟨(G9 h7).1,(G9 h7).2.1,(G9 h7).2.2,(Ef h2).1,(Ef h2).2⟩
 have hS0:=A4 (hSw _ (B7.out.ext (Al.drew W0)) (B2.out.ext (Al.drew W0)));have hS1:=A4 (hSw _ (An.setRow_other (B7.out.ext (Al.drew W0)) #[.int .i64 k4,.int .i64 k1,.int .i64 k5] (show w.heap.size+1+1+1+1≠w.heap.size+1+1 by omega)) (An.setRow_other (B2.out.ext (Al.drew W0)) #[.int .i64 k4,.int .i64 k1,.int .i64 k5] (show w.heap.size≠w.heap.size+1+1 by omega)))
 have hS2:=A4 (hSw _ (An.setRow_other (An.setRow_other (B7.out.ext (Al.drew W0)) #[.int .i64 k4,.int .i64 k1,.int .i64 k5] (show w.heap.size+1+1+1+1≠w.heap.size+1+1 by omega)) #[.int .i64 fk,.int .i64 fa] (show w.heap.size+1+1+1+1≠w.heap.size+1+1+1 by omega)) (An.setRow_other (An.setRow_other (B2.out.ext (Al.drew W0)) #[.int .i64 k4,.int .i64 k1,.int .i64 k5] (show w.heap.size≠w.heap.size+1+1 by omega)) #[.int .i64 fk,.int .i64 fa] (show w.heap.size≠w.heap.size+1+1+1 by omega)))
 clear hSw;refine wp_region_held_drew (S:=fun w'=>w'.cell? ⟨w.heap.size+1+1+1+1,0,none⟩=some (.int .i64 k4)∧w'.cell? ⟨w.heap.size+1+1+1+1,1,none⟩=some (.int .i64 k1)∧w'.cell? ⟨w.heap.size+1+1+1+1,2,none⟩=some (.int .i64 k5)∧w'.cell? ⟨w.heap.size,0,none⟩=some (.int .i64 fk)∧w'.cell? ⟨w.heap.size,1,none⟩=some (.int .i64 fa)) (by kernel_rfl) hS0.out (fun hHeld=>?_)
 refine Bo (i:=0) (v:=(.agg #[.int .i64 k4,.int .i64 k1,.int .i64 k5])) rfl hHeld ?_
 refine Bo (i:=1) (v:=(.agg #[.int .i64 fk,.int .i64 fa])) rfl hHeld ?_
 refine wpAnyH_ready (rs:=[2]) (by kernel_rfl) (by simp) ?_
 refine AllReadyH.cons rfl (fun K hK=>?_) AllReadyH.nil
 first
  |(
   guard_hyp N2
   refine Bv rfl 202 (.tmp 4) (.tmp 49) rfl (w.heap.size+1+1) 0 #[.int .i64 k4,.int .i64 k1,.int .i64 k5] rfl rfl 202 #[.int .i64 0,.int .i64 0,.int .i64 0] (B4.out.ext (Al.drew _)) Ej (Nat.le_refl _) (by simp[Value.oneCell']) ?_)
  |(
   refine Bv rfl 202 (.tmp 4) (.tmp 34) rfl (w.heap.size+1+1) 0 #[.int .i64 k4,.int .i64 k1,.int .i64 k5] rfl rfl 202 #[.int .i64 0,.int .i64 0,.int .i64 0] (B4.out.ext (Al.drew _)) Ej (Nat.le_refl _) (by simp[Value.oneCell']) ?_)
 refine hK.out _ _ hS1.out (fun hHeld2=>?_)
 clear hK K hHeld
 try simp only[List.getElem_toArray,List.getElem_cons_zero,List.getElem_cons_succ,Act.put,List.setIfInBounds_toArray,List.set_cons_zero,List.set_cons_succ]
 refine wpAnyH_ready (rs:=[3]) (by kernel_rfl) (by simp) ?_
 refine AllReadyH.cons rfl (fun K hK=>?_) AllReadyH.nil
 first
  |(
   guard_hyp N2
   refine Bv rfl 38 (.tmp 5) (.tmp 50) rfl (w.heap.size+1+1+1) 0 #[.int .i64 fk,.int .i64 fa] rfl rfl 38 #[.int .i64 0,.int .i64 0] (An.setRow_other (B5.out.ext (Al.drew _)) _ (by omega)) Dg (Nat.le_refl _) (by simp[Value.oneCell']) ?_)
  |(
   refine Bv rfl 38 (.tmp 5) (.tmp 35) rfl (w.heap.size+1+1+1) 0 #[.int .i64 fk,.int .i64 fa] rfl rfl 38 #[.int .i64 0,.int .i64 0] (An.setRow_other (B5.out.ext (Al.drew _)) _ (by omega)) Dg (Nat.le_refl _) (by simp[Value.oneCell']) ?_)
 refine hK.out _ _ hS2.out (fun hHeld3=>?_)
 clear hK K hHeld2
 try simp only[List.getElem_toArray,List.getElem_cons_zero,List.getElem_cons_succ,Act.put,List.setIfInBounds_toArray,List.set_cons_zero,List.set_cons_succ]
 first
  |(
   guard_hyp N2
   refine Bo (i:=4) (v:=(.int .i64 0)) rfl hHeld3 ?_)
  |(
   refine Bo (i:=4) (v:=(.int .i64 5)) rfl hHeld3 ?_)
 refine wpAnyH_done (by kernel_rfl) ?_ _
 go_wp2_with fail
 first
  |(
   guard_hyp N2
   refine bodyPost_ret (v:=.tuple #[.agg #[.int .i64 k4,.int .i64 k1,.int .i64 k5],.agg #[.int .i64 fk,.int .i64 fa],.int .i64 0]) ?_ rfl ⟨⟨_,_,_,_,_,rfl,.inl ⟨rfl,by unfold Gl;rw[if_neg h1,if_neg h2,if_neg h3]⟩⟩,Al.setRow (Al.setRow (HX.out.trans (Al.drew _)) (by omega) _) (by omega) _⟩)
  |(
   refine bodyPost_ret (v:=.tuple #[.agg #[.int .i64 k4,.int .i64 k1,.int .i64 k5],.agg #[.int .i64 fk,.int .i64 fa],.int .i64 5]) ?_ rfl ⟨⟨_,_,_,_,_,rfl,.inr ⟨rfl,by subst hk;subst hf;rfl⟩⟩,Al.setRow (Al.setRow (HX.out.trans (Al.drew _)) (by omega) _) (by omega) _⟩)
 exact Fw rfl _ _ (w.heap.size+1+1) (w.heap.size+1+1+1) 202 38 _ _ _ _ _ _ _ rfl rfl rfl (An.setRow_other (An.setRow (B4.out.ext (Al.drew _)) _) _ (by omega)) (An.setRow (An.setRow_other (B5.out.ext (Al.drew _)) _ (by omega)) _) Tryz.underlying202 rfl Ej Tryz.underlying38 rfl Dg):p:=h
theorem K6 (h:p:=by
 first
  |(
   guard_hyp N1
   obtain rfl:i=(j:Int):=by have:=hij.out;omega
   have hlt:j<n:=by omega
   have hfd2:Hid (pP ls (Jp ⟨ls,mo,(a:Int),sl,pl,ol⟩ p) a=if Lw (Jp ⟨ls,mo,(a:Int),sl,pl,ol⟩ p) (gL ls j)then some j else pP ls (Jp ⟨ls,mo,(a:Int),sl,pl,ol⟩ p) j):=A4 (by rw[hfd.out,pP])
   clear hfd hij)
  |(
   have hfd2:Hid (pQ ls (Jp ⟨ls,mo,(a:Int),sl,pl,ol⟩ p) n (n-(a+1))=if Lw (Jp ⟨ls,mo,(a:Int),sl,pl,ol⟩ p) (gL ls j)then some j else pQ ls (Jp ⟨ls,mo,(a:Int),sl,pl,ol⟩ p) n (n-(j+1))):=A4 (by
    rw[hfd.out,show n-j=(n-(j+1))+1 by omega,pQ,show n-(n-(j+1)+1)=j by omega])
   clear hfd)
 have hxr:=A4 (hx1.out.trans hxl.out);have B3r:=A4 (An.ext B3.out hxl.out);have B6r:=A4 (An.ext B6.out hxl.out);obtain⟨ad,v,rfl,hc,B7,m7,c7,rfl,hI7,hB7,hm7⟩:=(HL.out.ext hxr.out).at_ hlt;obtain⟨k0,k1,k2,k3,k4,k5⟩:=Cg B3r.out;have hm7':m7≤200:=by
  have h1:=(Z7.1 HGd.out.2.1).1 j (by simp only;rw[HN.out];exact hlt)
  simp only at h1;have:=hI7.len;omega
 have HFt:=A4 (aC (HT.out.ext hxl.out) hI7 (by omega) hpos (by omega))
 clear hI7 hB7 hm7;go_wp2_with fail
 refine HFt.out.mono ?_
 rintro e w2 ⟨rfl,he2⟩;have hx2:=A4 (hxl.out.trans he2);clear HFt k0 k1 k2 k3 k4 k5 hc;cases hf:Lw (Jp ⟨ls,mo,(a:Int),sl,pl,ol⟩ p) (gL ls j)
 first
  |(
   guard_hyp N1
   ·have HF:=A4 hf
    clear hf;go_wp2_with fail
    go_roundw
    case rel=>exact⟨j,_,rfl,A4 (by omega),by omega,A4 (by rw[hfd2.out,HF.out];rfl),A4 hx2.out⟩
    case measure=>simp[intOf];omega)
  |(
   ·have HF:=A4 hf
    clear hf;go_wp2_with fail
    go_roundw
    case rel=>exact⟨j+1,by go_num,by omega,by omega,A4 (by rw[hfd2.out,HF.out];rfl),A4 hx2.out⟩
    case measure=>simp[intOf];omega)
 ·have HF:=A4 hf
  clear hf
  first
   |(
    guard_hyp N1
    have hk9:Hid (Yc ⟨ls,mo,(a:Int),sl,pl,ol⟩ now p true j):=A4 ⟨HGd.out,by rw[htl.out];exact ht4,fun e=>by have:=HT.out.len;rw[e]at this;simp at this;omega,by
     unfold Yk;simp only[if_true,Int.toNat_natCast];rw[hfd2.out,HF.out]
     rfl⟩)
   |(
    have hk9:Hid (Yc ⟨ls,mo,(a:Int),sl,pl,ol⟩ now p false j):=A4 ⟨HGd.out,by rw[htl.out];exact ht4,fun e=>by have:=HT.out.len;rw[e]at this;simp at this;omega,by
     unfold Yk;simp only[Bool.false_eq_true,if_false,Int.toNat_natCast];rw[HN.out,hfd2.out,HF.out]
     rfl⟩)
  have hx2':=A4 (hx1.out.trans hx2.out);have HTo:=A4 (Xn (k:=j) (HV.out.ext hx2'.out) (by simp only;rw[HN.out];omega) (HNow.out.ext hx2'.out) hN (by omega) (by simp only;rw[HN.out];omega))
  have B32:=A4 (An.ext B3r.out he2);have B62:=A4 (An.ext B6r.out he2);have hsz2:w.heap.size+2≤w2.heap.size:=Nat.le_trans hsz1 hx2.out.hsize;obtain⟨k0,k1,k2,k3,k4,k5⟩:=Cg B32.out;clear B3r B6r hxr hxl he2 HF;go_wp2_with fail
  refine HTo.out.mono ?_
  rintro e w3 ⟨u,L,m,zz,rfl,hO,hLi,hL0,he3,hFN⟩;obtain⟨O',n',c',S',sn',sc',P2,pn2,pc2,rfl,hOL,hOS,hOP⟩:=hO;simp only[toH]at hOL hOS;have HOL:=A4 hOL;have HOS:=A4 hOS;have HLi:=A4 hLi;have HL0:=A4 hL0;have HE3:=A4 he3;have HFN:=A4 hFN;clear HTo k0 k1 k2 k3 k4 k5 hOL hOS hOP hLi hL0 he3 hFN;unfold Ce;simp only[toH];go_upto_region 18 with fail
  have b14:=A4 (An.new w3 54 #[.slice O' n' c',.int .i64 mo,.int .i64 (j:Int),.slice S' sn' sc',.slice P2 pn2 pc2,.bool ol]);have hxa:=A4 (Al.alloc w3 (.cells #[.slice O' n' c',.int .i64 mo,.int .i64 (j:Int),.slice S' sn' sc',.slice P2 pn2 pc2,.bool ol] 54));change Code.wp _ _ _ _ (w3.alloc (.cells #[.slice O' n' c',.int .i64 mo,.int .i64 (j:Int),.slice S' sn' sc',.slice P2 pn2 pc2,.bool ol] 54));generalize w3.alloc (.cells #[.slice O' n' c',.int .i64 mo,.int .i64 (j:Int),.slice S' sn' sc',.slice P2 pn2 pc2,.bool ol] 54)=W at*;have hge3:w3.heap.size≤w3.heap.size:=Nat.le_refl _;have hsz3:w.heap.size+2≤w3.heap.size:=Nat.le_trans hsz2 HE3.out.hsize;have hgW:w3.heap.size<W.heap.size:=b14.out.lt;have HCl:=A4 (Cy (((HT.out.ext hx2.out).ext HE3.out).ext hxa.out) HT0.out (by omega))
  have B63:=A4 (An.ext (An.ext B62.out HE3.out) hxa.out);go_wp2_with fail
  refine HCl.out.mono ?_
  rintro e w4 ⟨Bc,zc,rfl,hOB,hB0,he4⟩;have b144:=A4 (An.ext b14.out he4);have B64:=A4 (An.ext B63.out he4);have hne:w3.heap.size≠w.heap.size+1:=by omega
  first
   |(
    guard_hyp N1
    have b145:=A4 ((b144.out.set_ 4 (.slice Bc t zc)).set_ 5 (.bool true));have B65:=A4 (Bh (Bh B64.out hne 4 (.slice Bc t zc)) hne 5 (.bool true));have HX5:=A4 (((hxa.out.trans he4).setCell (p:=⟨w3.heap.size,4,none⟩) hge3 (.slice Bc t zc)).setCell (p:=⟨w3.heap.size,5,none⟩) hge3 (.bool true));have HOB5:=A4 ((Ay.setCell hOB (p:=⟨w3.heap.size,4,none⟩) hgW (.slice Bc t zc)).setCell (p:=⟨w3.heap.size,5,none⟩) hgW (.bool true)))
   |(
    have b145:=A4 ((b144.out.set_ 4 (.slice Bc t zc)).set_ 5 (.bool false));have B65:=A4 (Bh (Bh B64.out hne 4 (.slice Bc t zc)) hne 5 (.bool false));have HX5:=A4 (((hxa.out.trans he4).setCell (p:=⟨w3.heap.size,4,none⟩) hge3 (.slice Bc t zc)).setCell (p:=⟨w3.heap.size,5,none⟩) hge3 (.bool false));have HOB5:=A4 ((Ay.setCell hOB (p:=⟨w3.heap.size,4,none⟩) hgW (.slice Bc t zc)).setCell (p:=⟨w3.heap.size,5,none⟩) hgW (.bool false)))
  have HB0:=A4 hB0;obtain⟨c0,c1,c2,c3,c4,c5⟩:=Cg b144.out;obtain⟨g0,g1,g2,g3,g4,g5⟩:=Du b144.out;clear HCl hOB hB0 he4 b14 hxa B63 B62 B32;go_upto_region 19 with fail
  clear c0 c1 c2 c3 c4 c5 g0 g1 g2 g3 g4 g5 b144 B64
  first
   |(
    guard_hyp N1
    generalize (w4.setCell ⟨w3.heap.size,4,none⟩ (.slice Bc t zc)).setCell ⟨w3.heap.size,5,none⟩ (.bool true)=W5 at *)
   |(
    generalize (w4.setCell ⟨w3.heap.size,4,none⟩ (.slice Bc t zc)).setCell ⟨w3.heap.size,5,none⟩ (.bool false)=W5 at *)
  have HOL5:=A4 ((HOL.out.ext HX5.out).lower (show w.heap.size+2≤w2.heap.size from hsz2))
  have HOS5:=A4 ((HOS.out.ext HX5.out).lower (show w.heap.size+2≤w2.heap.size from hsz2))
  have HLi5:=A4 (Ay.lower (HLi.out.ext HX5.out) (show w.heap.size+2≤w2.heap.size from hsz2))
  have HOB6:=A4 (Ay.lower HOB5.out (show w.heap.size+2≤W.heap.size by omega))
  first
   |(
    guard_hyp N1
    have HHis:Hid (D3 W5 (w.heap.size+2) (.agg (Ce O' n' c' mo (j:Int) S' sn' sc' Bc t zc true)) (findH ⟨ls,mo,(a:Int),sl,pl,ol⟩ now p true j)):=A4 ⟨O',n',c',S',sn',sc',Bc,t,zc,rfl,HOL5.out,HOS5.out,Bc,t,zc,rfl,HOB6.out,HB0.out,by omega⟩)
   |(
    have HHis:Hid (D3 W5 (w.heap.size+2) (.agg (Ce O' n' c' mo (j:Int) S' sn' sc' Bc t zc false)) (findH ⟨ls,mo,(a:Int),sl,pl,ol⟩ now p false j)):=A4 ⟨O',n',c',S',sn',sc',Bc,t,zc,rfl,HOL5.out,HOS5.out,Bc,t,zc,rfl,HOB6.out,HB0.out,by omega⟩)
  have hlt1:w.heap.size+1<w.heap.size+2:=by omega
  first
   |(
    guard_hyp N1
    have HO6:=A4 (Gk HHis.out hlt1 (.slice O' n' c') (.int .i64 mo) (.int .i64 (j:Int)) (.slice S' sn' sc') (.slice Bc t zc) (.bool true));have HL6:=A4 (Hh HLi5.out hlt1 (.slice O' n' c') (.int .i64 mo) (.int .i64 (j:Int)) (.slice S' sn' sc') (.slice Bc t zc) (.bool true));have HX6:=A4 (Em ((hx2'.out.trans HE3.out).trans HX5.out) (show w.heap.size≤w.heap.size+1 by omega) (.slice O' n' c') (.int .i64 mo) (.int .i64 (j:Int)) (.slice S' sn' sc') (.slice Bc t zc) (.bool true))
    have hf6:=A4 (En B65.out (.slice O' n' c') (.int .i64 mo) (.int .i64 (j:Int)) (.slice S' sn' sc') (.slice Bc t zc) (.bool true));have HF6:=A4 (Ld (show Fq W5 (w.heap.size+2) (.slice L m zz) (.agg (Ce O' n' c' mo (j:Int) S' sn' sc' Bc t zc true)) (findH ⟨ls,mo,(a:Int),sl,pl,ol⟩ now p true j)from Fq.pat ((HFN.out.ext HX5.out).lower hsz2) ⟨Bc,t,zc,rfl,HOB6.out,HB0.out,by omega⟩ (fun g hg e=>by have a1:=(Ay.blk HOB5.out g hg).1;have a2:=(Ay.blk HLi.out g e).2;omega)) hlt1 (.slice O' n' c') (.int .i64 mo) (.int .i64 (j:Int)) (.slice S' sn' sc') (.slice Bc t zc) (.bool true)))
   |(
    have HO6:=A4 (Gk HHis.out hlt1 (.slice O' n' c') (.int .i64 mo) (.int .i64 (j:Int)) (.slice S' sn' sc') (.slice Bc t zc) (.bool false));have HL6:=A4 (Hh HLi5.out hlt1 (.slice O' n' c') (.int .i64 mo) (.int .i64 (j:Int)) (.slice S' sn' sc') (.slice Bc t zc) (.bool false));have HX6:=A4 (Em ((hx2'.out.trans HE3.out).trans HX5.out) (show w.heap.size≤w.heap.size+1 by omega) (.slice O' n' c') (.int .i64 mo) (.int .i64 (j:Int)) (.slice S' sn' sc') (.slice Bc t zc) (.bool false))
    have hf6:=A4 (En B65.out (.slice O' n' c') (.int .i64 mo) (.int .i64 (j:Int)) (.slice S' sn' sc') (.slice Bc t zc) (.bool false));have HF6:=A4 (Ld (show Fq W5 (w.heap.size+2) (.slice L m zz) (.agg (Ce O' n' c' mo (j:Int) S' sn' sc' Bc t zc false)) (findH ⟨ls,mo,(a:Int),sl,pl,ol⟩ now p false j)from Fq.pat ((HFN.out.ext HX5.out).lower hsz2) ⟨Bc,t,zc,rfl,HOB6.out,HB0.out,by omega⟩ (fun g hg e=>by have a1:=(Ay.blk HOB5.out g hg).1;have a2:=(Ay.blk HLi.out g e).2;omega)) hlt1 (.slice O' n' c') (.int .i64 mo) (.int .i64 (j:Int)) (.slice S' sn' sc') (.slice Bc t zc) (.bool false)))
  obtain⟨c0,c1,c2,c3,c4,c5⟩:=Cg b145.out;obtain⟨d0,d1,d2,d3,d4,d5⟩:=Cg B65.out;obtain⟨f0,f1,f2,f3,f4,f5⟩:=Du B65.out;unfold Pg at HO6 HL6 HX6 hf6 HF6;clear HFN HOL HOS HLi HE3 HX5 HOB5 HOL5 HOS5 HLi5 HOB6 HHis B65 b145;go_wp2_with fail
  first
   |(
    guard_hyp N1
    refine bodyPost_ret (v:=.tuple #[.agg (Ce O' n' c' mo (j:Int) S' sn' sc' Bc t zc true),.slice L m zz,.int .i64 0]) ?_ rfl ⟨HX6.out,.inl ⟨j,hk9.out,by simp only;rw[HN.out];exact hlt,_,L,m,zz,rfl,HO6.out.lower (by omega),Ay.lower HL6.out (by omega),HL0.out,HF6.out.lower (by omega)⟩⟩)
   |(
    refine bodyPost_ret (v:=.tuple #[.agg (Ce O' n' c' mo (j:Int) S' sn' sc' Bc t zc false),.slice L m zz,.int .i64 0]) ?_ rfl ⟨HX6.out,.inl ⟨j,hk9.out,by simp only;rw[HN.out];exact hlt,_,L,m,zz,rfl,HO6.out.lower (by omega),Ay.lower HL6.out (by omega),HL0.out,HF6.out.lower (by omega)⟩⟩)
  exact Dm rfl _ _ (w.heap.size+1) 54 _ _ _ _ _ rfl rfl rfl hf6.out Tryz.underlying54 rfl (Ek rfl)):p:=h
theorem K7 (h:p:=by
 have HV:=A4 hv;obtain⟨A,n,c,S,sn,sc,P,pn,pc,rfl,hn,hnm⟩:=hv.cells;obtain⟨ls,mo,at_,sl,pl,ol⟩:=h;simp only at hn ⊢;have HN:=A4 hn;have HNow:=A4 hnow;have hql:=A4 hnow.len;have hb0:=A4 ((An.new w 54 (Ce A n c mo at_ S sn sc P pn pc ol)).ext (Al.alloc _ (.cells Dj 54)));have hb1:Hid (An ((w.alloc (.cells (Ce A n c mo at_ S sn sc P pn pc ol) 54)).alloc (.cells Dj 54)) (w.heap.size+1) 54 Dj):=A4 (by
  have:=An.new (w.alloc (.cells (Ce A n c mo at_ S sn sc P pn pc ol) 54)) 54 Dj
  rwa[World.size_alloc]at this)
 have hx0:Hid (Al w ((w.alloc (.cells (Ce A n c mo at_ S sn sc P pn pc ol) 54)).alloc (.cells Dj 54))):=A4 ((Al.alloc _ _).to_alloc _);have HR:=A4 (Qm (k:=k) (HV.out.ext hx0.out) (hnow.ext hx0.out));have hsz0:Hid (w.heap.size+2≤((w.alloc (.cells (Ce A n c mo at_ S sn sc P pn pc ol) 54)).alloc (.cells Dj 54)).heap.size):=A4 (by simp)
 unfold maxLen at hnm;clear hv hn hnow;unfold Ce Dj at*
 first
  |(
   guard_hyp N1
   go_enter Tryz.func59,Tryz.ntmps59)
  |(
   guard_hyp N2
   go_enter Tryz.func60,Tryz.ntmps60)
  |(
   go_enter Tryz.func58,Tryz.ntmps58)
 go_wp2_with fail
 refine HR.out.mono ?_
 rintro e w1 ⟨x,rfl,hgd,he1⟩;have hx1:=A4 (hx0.out.trans he1);have B3:=A4 (An.ext hb0.out he1);have B6:=A4 (An.ext hb1.out he1);have hsz1:w.heap.size+2≤w1.heap.size:=Nat.le_trans hsz0.out he1.hsize;have HG:=A4 hgd;obtain⟨k0,k1,k2,k3,k4,k5⟩:=Cg B3.out;obtain⟨d0,d1,d2,d3,d4,d5⟩:=Cg B6.out;obtain⟨f0,f1,f2,f3,f4,f5⟩:=Du B6.out;have HX:=A4 (Em hx1.out (show w.heap.size≤w.heap.size+1 by omega) (.slice none 0 0) (.int .i64 0) (.int .i64 0) (.slice none 0 0) (.slice none 0 0) (.bool false))
 have hfin:=A4 (En B6.out (.slice none 0 0) (.int .i64 0) (.int .i64 0) (.slice none 0 0) (.slice none 0 0) (.bool false));unfold Pg at HX hfin;clear HR hb0 hb1 hx0 he1 hgd;by_cases hx0:x=0
 first
  |(
   guard_hyp N1
   ·subst hx0
    have hg:=HG.out.1 rfl;obtain⟨g1,_,g3,g4,g5⟩:=hg;unfold Hi.bad at g1;simp only at g1;rw[HN.out]at g1;rw[hql.out]at g3;obtain⟨a,rfl⟩:∃a:Nat,at_=a:=⟨at_.toNat,by omega⟩
    have ha:a≤n:=by omega
    have hn50:n≤50:=by omega
    have HGd:=A4 (HG.out.1 rfl);clear g1;obtain⟨f,hf1,hf2,hf3⟩:∃f:Nat,Gc k=f∧max 1 k=(f:Int)∧f≤999:=⟨Gc k,rfl,by unfold Gc;omega,by unfold Gc;omega⟩
    have HF1:=A4 hf1;have HF2:=A4 hf2;clear hf1 hf2;have hkc:(k=0∨k=1)∨1<k:=by omega
    by_cases hfa:n<a+f
    ·have hno:Hid (¬(Ko ⟨ls,mo,(a:Int),sl,pl,ol⟩ now k∧(Gc k:Int)+(a:Int)≤(ls.length:Int))):=A4 (fun hh=>by have h2:=hh.2;have h3:=HF1.out;have h4:=HN.out;omega)
     clear HG HGd;rcases hkc with hk1|hk1
     ·obtain rfl:f=1:=by have:=HF2.out;omega
      rcases hk1 with rfl|rfl
      all_goals
       have hbi:(n:Int)-a<1:=by omega
       exact I2
     ·have hkf:Hid (k=(f:Int)):=A4 (by have:=HF2.out;omega)
      have hbi:(n:Int)-a<k:=by have:=hkf.out;omega
      exact I2
    ·have hok:Hid (Ko ⟨ls,mo,(a:Int),sl,pl,ol⟩ now k∧(Gc k:Int)+(a:Int)≤(ls.length:Int)):=A4 ⟨HGd.out,by have h3:=HF1.out;have h4:=HN.out;omega⟩
     have HTN:Hid (((a:Int).toNat+Gc k)=a+f):=A4 (by have h3:=HF1.out;simp only[h3];first|rfl|(simp))
     have HT:Hid (Calls Tryz.prog 80 #[.agg #[.slice A n c,.int .i64 mo,.int .i64 (a:Int),.slice S sn sc,.slice P pn pc,.bool ol],.slice N q y,.int .i64 ((a+f:Nat):Int)] w1 fun e w'=>∃u L m z,e=.returned (.tuple #[u,.slice L m z,.int .i64 0])∧D3 w' w1.heap.size u (toH ⟨ls,mo,(a:Int),sl,pl,ol⟩ now (a+f))∧Av w' w1.heap.size L m z (toL ⟨ls,mo,(a:Int),sl,pl,ol⟩ now (a+f))∧(L=none→z=0)∧Al w1 w'):=A4
      (kY (HV.out.ext hx1.out) (by simp only;rw[HN.out];omega) (HNow.out.ext hx1.out) hN (by omega) (by simp only;rw[HN.out];omega))
     clear HG HGd HX hfin;rcases hkc with hk1|hk1
     ·obtain rfl:f=1:=by have:=HF2.out;omega
      rcases hk1 with rfl|rfl
      all_goals
       have hbi:(1:Int)≤(n:Int)-a:=by omega
       rw[show(((a+1:Nat):Nat):Int)=(a:Int)+1 by omega]at HT
       go_wp2_with fail
       refine HT.out.mono ?_
       rintro e w2 ⟨u,L,m,z,rfl,hO,hLi,hL0,he2⟩;obtain⟨O',n',c',S',sn',sc',P',pn',pc',rfl,hOr⟩:=hO;have B62:=A4 (An.ext B6.out he2);obtain⟨d0,d1,d2,d3,d4,d5⟩:=Cg B62.out;obtain⟨f0,f1,f2,f3,f4,f5⟩:=Du B62.out;have hlt1:w.heap.size+1<w1.heap.size:=by omega
       have HO6:=A4 (Gk (show D3 w2 w1.heap.size _ _ from⟨O',n',c',S',sn',sc',P',pn',pc',rfl,hOr⟩) hlt1 (.slice O' n' c') (.int .i64 mo) (.int .i64 ((a+1:Nat):Int)) (.slice S' sn' sc') (.slice P' pn' pc') (.bool ol))
       have HL6:=A4 (Hh hLi hlt1 (.slice O' n' c') (.int .i64 mo) (.int .i64 ((a+1:Nat):Int)) (.slice S' sn' sc') (.slice P' pn' pc') (.bool ol));have HX6:=A4 (Em (hx1.out.trans he2) (show w.heap.size≤w.heap.size+1 by omega) (.slice O' n' c') (.int .i64 mo) (.int .i64 ((a+1:Nat):Int)) (.slice S' sn' sc') (.slice P' pn' pc') (.bool ol))
       have hf6:=A4 (En B62.out (.slice O' n' c') (.int .i64 mo) (.int .i64 ((a+1:Nat):Int)) (.slice S' sn' sc') (.slice P' pn' pc') (.bool ol));have HL0:=A4 hL0;unfold Pg at HO6 HL6 HX6 hf6;clear hOr hLi hL0 he2 HT;unfold Ce;simp only[toH];go_wp2_with fail
       refine bodyPost_ret (v:=.tuple #[.agg (Ce O' n' c' mo ((a+1:Nat):Int) S' sn' sc' P' pn' pc' ol),.slice L m z,.int .i64 0]) ?_ rfl ⟨HX6.out,.inl ⟨hok.out,_,L,m,z,rfl,?_,?_,HL0.out⟩⟩
       ·exact I5
       ·rw[HTN.out]
        exact HO6.out.lower (by omega)
       ·exact I106
     ·have hkf:Hid (k=(f:Int)):=A4 (by have:=HF2.out;omega)
      have hbi:k≤(n:Int)-a:=by have:=hkf.out;omega
      rw[show(((a+f:Nat):Nat):Int)=(a:Int)+k by have:=hkf.out;omega]at HT
      go_wp2_with fail
      refine HT.out.mono ?_
      rintro e w2 ⟨u,L,m,z,rfl,hO,hLi,hL0,he2⟩;obtain⟨O',n',c',S',sn',sc',P',pn',pc',rfl,hOr⟩:=hO;have B62:=A4 (An.ext B6.out he2);obtain⟨d0,d1,d2,d3,d4,d5⟩:=Cg B62.out;obtain⟨f0,f1,f2,f3,f4,f5⟩:=Du B62.out;have hlt1:w.heap.size+1<w1.heap.size:=by omega
      have HO6:=A4 (Gk (show D3 w2 w1.heap.size _ _ from⟨O',n',c',S',sn',sc',P',pn',pc',rfl,hOr⟩) hlt1 (.slice O' n' c') (.int .i64 mo) (.int .i64 ((a+f:Nat):Int)) (.slice S' sn' sc') (.slice P' pn' pc') (.bool ol))
      have HL6:=A4 (Hh hLi hlt1 (.slice O' n' c') (.int .i64 mo) (.int .i64 ((a+f:Nat):Int)) (.slice S' sn' sc') (.slice P' pn' pc') (.bool ol));have HX6:=A4 (Em (hx1.out.trans he2) (show w.heap.size≤w.heap.size+1 by omega) (.slice O' n' c') (.int .i64 mo) (.int .i64 ((a+f:Nat):Int)) (.slice S' sn' sc') (.slice P' pn' pc') (.bool ol))
      have hf6:=A4 (En B62.out (.slice O' n' c') (.int .i64 mo) (.int .i64 ((a+f:Nat):Int)) (.slice S' sn' sc') (.slice P' pn' pc') (.bool ol));have HL0:=A4 hL0;unfold Pg at HO6 HL6 HX6 hf6;clear hOr hLi hL0 he2 HT;unfold Ce;simp only[toH];go_wp2_with fail
      refine bodyPost_ret (v:=.tuple #[.agg (Ce O' n' c' mo ((a+f:Nat):Int) S' sn' sc' P' pn' pc' ol),.slice L m z,.int .i64 0]) ?_ rfl ⟨HX6.out,.inl ⟨hok.out,_,L,m,z,rfl,?_,?_,HL0.out⟩⟩
      ·exact I5
      ·rw[HTN.out]
       exact HO6.out.lower (by omega)
      ·rw[HTN.out]
       exact Ay.lower HL6.out (by omega))
  |(
   guard_hyp N2
   ·subst hx0
    have hg:=HG.out.1 rfl;obtain⟨g1,_,g3,g4,g5⟩:=hg;unfold Hi.bad at g1;simp only at g1;rw[HN.out]at g1;rw[hql.out]at g3;have hn50:n≤50:=by omega
    have HGd:=A4 (HG.out.1 rfl);clear g1;by_cases hkn:(n:Int)<k∨n=0
    ·have hno:Hid (¬(Ko ⟨ls,mo,at_,sl,pl,ol⟩ now k∧k≤(ls.length:Int)∧0<ls.length)):=A4 (fun hh=>by have h2:=hh.2;have h4:=HN.out;omega)
     clear HG HGd;rcases Int.lt_or_le (n:Int) k with hlt|hle
     ·clear hkn
      exact I2
     ·obtain rfl:n=0:=by omega
      obtain rfl:k=0:=by omega
      clear hkn hle;exact I2
    ·have hle:k≤(n:Int):=by omega
     have hn0:((n:Int)==0)=false:=by
      have h0:(n:Int)≠0:=by omega
      simpa using h0
     have hok:Hid (Ko ⟨ls,mo,at_,sl,pl,ol⟩ now k∧k≤(ls.length:Int)∧0<ls.length):=A4 ⟨HGd.out,by have h4:=HN.out;omega,by have h4:=HN.out;omega⟩
     obtain⟨f,hf1,hf2,hf3⟩:∃f:Nat,Pp k=f∧max 0 (k-1)=(f:Int)∧f≤n:=⟨Pp k,rfl,by unfold Pp;omega,by unfold Pp;omega⟩
     have HF1:=A4 hf1;have HF2:=A4 hf2;have HT:Hid (Calls Tryz.prog 80 #[.agg #[.slice A n c,.int .i64 mo,.int .i64 at_,.slice S sn sc,.slice P pn pc,.bool ol],.slice N q y,.int .i64 (f:Int)] w1 fun e w'=>∃u L m z,e=.returned (.tuple #[u,.slice L m z,.int .i64 0])∧D3 w' w1.heap.size u (toH ⟨ls,mo,at_,sl,pl,ol⟩ now f)∧Av w' w1.heap.size L m z (toL ⟨ls,mo,at_,sl,pl,ol⟩ now f)∧(L=none→z=0)∧Al w1 w'):=A4
      (kY (HV.out.ext hx1.out) (by simp only;rw[HN.out];omega) (HNow.out.ext hx1.out) hN (by omega) (by simp only;rw[HN.out];omega))
     have hkc:k=0∨k=1∨0<k-1:=by omega
     clear HG HGd HX hfin hf1 hf2 hkn;rcases hkc with rfl|rfl|hk1
     ·exact I0
     ·exact I0
     ·have hkf:((f:Nat):Int)=k-1:=by have:=HF2.out;omega
      rw[hkf]at HT;have HK:=A4 hkf;clear hkf;go_wp2_with fail
      refine HT.out.mono ?_
      rintro e w2 ⟨u,L,m,z,rfl,hO,hLi,hL0,he2⟩;obtain⟨O',n',c',S',sn',sc',P',pn',pc',rfl,hOr⟩:=hO;have B62:=A4 (An.ext B6.out he2);obtain⟨d0,d1,d2,d3,d4,d5⟩:=Cg B62.out;obtain⟨f0,f1,f2,f3,f4,f5⟩:=Du B62.out;have hlt1:w.heap.size+1<w1.heap.size:=by omega
      have HO6:=A4 (Gk (show D3 w2 w1.heap.size _ _ from⟨O',n',c',S',sn',sc',P',pn',pc',rfl,hOr⟩) hlt1 (.slice O' n' c') (.int .i64 mo) (.int .i64 ((f:Nat):Int)) (.slice S' sn' sc') (.slice P' pn' pc') (.bool ol))
      have HL6:=A4 (Hh hLi hlt1 (.slice O' n' c') (.int .i64 mo) (.int .i64 ((f:Nat):Int)) (.slice S' sn' sc') (.slice P' pn' pc') (.bool ol));have HX6:=A4 (Em (hx1.out.trans he2) (show w.heap.size≤w.heap.size+1 by omega) (.slice O' n' c') (.int .i64 mo) (.int .i64 ((f:Nat):Int)) (.slice S' sn' sc') (.slice P' pn' pc') (.bool ol))
      have hf6:=A4 (En B62.out (.slice O' n' c') (.int .i64 mo) (.int .i64 ((f:Nat):Int)) (.slice S' sn' sc') (.slice P' pn' pc') (.bool ol));have HL0:=A4 hL0;unfold Pg at HO6 HL6 HX6 hf6;clear hOr hLi hL0 he2 HT;unfold Ce;simp only[toH];go_wp2_with fail
      refine bodyPost_ret (v:=.tuple #[.agg (Ce O' n' c' mo ((f:Nat):Int) S' sn' sc' P' pn' pc' ol),.slice L m z,.int .i64 0]) ?_ rfl ⟨HX6.out,.inl ⟨hok.out,_,L,m,z,rfl,?_,?_,HL0.out⟩⟩
      ·exact I5
      ·rw[HF1.out]
       exact HO6.out.lower (by omega)
      ·rw[HF1.out]
       exact Ay.lower HL6.out (by omega))
  |(
   ·subst hx0
    have hg:=HG.out.1 rfl;obtain⟨g1,_,g3,g4,g5⟩:=hg;unfold Hi.bad at g1;simp only at g1;rw[HN.out]at g1;rw[hql.out]at g3;obtain⟨a,rfl⟩:∃a:Nat,at_=a:=⟨at_.toNat,by omega⟩
    have ha:a≤n:=by omega
    have hn50:n≤50:=by omega
    have HGd:=A4 (HG.out.1 rfl);clear g1;obtain⟨f,hf1,hf2,hf3⟩:∃f:Nat,Gc k=f∧max 1 k=(f:Int)∧f≤999:=⟨Gc k,rfl,by unfold Gc;omega,by unfold Gc;omega⟩
    have HF1:=A4 hf1;have HF2:=A4 hf2;clear hf1 hf2;have hkc:(k=0∨k=1)∨1<k:=by omega
    by_cases hfa:a<f
    ·have hno:Hid (¬(Ko ⟨ls,mo,(a:Int),sl,pl,ol⟩ now k∧(Gc k:Int)≤(a:Int))):=A4 (fun hh=>by have h2:=hh.2;have h3:=HF1.out;have h4:=HN.out;omega)
     clear HG HGd;rcases hkc with hk1|hk1
     ·obtain rfl:f=1:=by have:=HF2.out;omega
      rcases hk1 with rfl|rfl
      all_goals
       have hbi:(a:Int)<1:=by omega
       exact I2
     ·have hkf:Hid (k=(f:Int)):=A4 (by have:=HF2.out;omega)
      have hbi:(a:Int)<k:=by have:=hkf.out;omega
      exact I2
    ·have hok:Hid (Ko ⟨ls,mo,(a:Int),sl,pl,ol⟩ now k∧(Gc k:Int)≤(a:Int)):=A4 ⟨HGd.out,by have h3:=HF1.out;have h4:=HN.out;omega⟩
     have HTN:Hid (((a:Int).toNat-Gc k)=a-f):=A4 (by have h3:=HF1.out;simp only[h3];first|rfl|(simp))
     have HT:Hid (Calls Tryz.prog 80 #[.agg #[.slice A n c,.int .i64 mo,.int .i64 (a:Int),.slice S sn sc,.slice P pn pc,.bool ol],.slice N q y,.int .i64 ((a-f:Nat):Int)] w1 fun e w'=>∃u L m z,e=.returned (.tuple #[u,.slice L m z,.int .i64 0])∧D3 w' w1.heap.size u (toH ⟨ls,mo,(a:Int),sl,pl,ol⟩ now (a-f))∧Av w' w1.heap.size L m z (toL ⟨ls,mo,(a:Int),sl,pl,ol⟩ now (a-f))∧(L=none→z=0)∧Al w1 w'∧Fq w' w1.heap.size (.slice L m z) u (toH ⟨ls,mo,(a:Int),sl,pl,ol⟩ now (a-f))):=A4
      (Xn (HV.out.ext hx1.out) (by simp only;rw[HN.out];omega) (HNow.out.ext hx1.out) hN (by omega) (by simp only;rw[HN.out];omega))
     clear HG HGd HX hfin;rcases hkc with hk1|hk1
     ·obtain rfl:f=1:=by have:=HF2.out;omega
      rcases hk1 with rfl|rfl
      all_goals
       have hbi:(1:Int)≤a:=by omega
       rw[show(((a-1:Nat):Nat):Int)=(a:Int)-1 by omega]at HT
       go_wp2_with fail
       refine HT.out.mono ?_
       rintro e w2 ⟨u,L,m,z,rfl,hO,hLi,hL0,he2,hFN⟩;obtain⟨O',n',c',S',sn',sc',P',pn',pc',rfl,hOr⟩:=hO;have B62:=A4 (An.ext B6.out he2);obtain⟨d0,d1,d2,d3,d4,d5⟩:=Cg B62.out;obtain⟨f0,f1,f2,f3,f4,f5⟩:=Du B62.out;have hlt1:w.heap.size+1<w1.heap.size:=by omega
       have HO6:=A4 (Gk (show D3 w2 w1.heap.size _ _ from⟨O',n',c',S',sn',sc',P',pn',pc',rfl,hOr⟩) hlt1 (.slice O' n' c') (.int .i64 mo) (.int .i64 ((a-1:Nat):Int)) (.slice S' sn' sc') (.slice P' pn' pc') (.bool ol))
       have HL6:=A4 (Hh hLi hlt1 (.slice O' n' c') (.int .i64 mo) (.int .i64 ((a-1:Nat):Int)) (.slice S' sn' sc') (.slice P' pn' pc') (.bool ol));have HF6:=A4 (Ld hFN hlt1 (.slice O' n' c') (.int .i64 mo) (.int .i64 ((a-1:Nat):Int)) (.slice S' sn' sc') (.slice P' pn' pc') (.bool ol));have HX6:=A4 (Em (hx1.out.trans he2) (show w.heap.size≤w.heap.size+1 by omega) (.slice O' n' c') (.int .i64 mo) (.int .i64 ((a-1:Nat):Int)) (.slice S' sn' sc') (.slice P' pn' pc') (.bool ol))
       have hf6:=A4 (En B62.out (.slice O' n' c') (.int .i64 mo) (.int .i64 ((a-1:Nat):Int)) (.slice S' sn' sc') (.slice P' pn' pc') (.bool ol));have HL0:=A4 hL0;unfold Pg at HO6 HL6 HX6 hf6 HF6;clear hOr hLi hL0 he2 HT hFN;unfold Ce;simp only[toH];go_wp2_with fail
       refine bodyPost_ret (v:=.tuple #[.agg (Ce O' n' c' mo ((a-1:Nat):Int) S' sn' sc' P' pn' pc' ol),.slice L m z,.int .i64 0]) ?_ rfl ⟨HX6.out,.inl ⟨hok.out,_,L,m,z,rfl,?_,?_,HL0.out,?_⟩⟩
       ·exact I5
       ·rw[HTN.out]
        exact HO6.out.lower (by omega)
       ·exact I106
       ·rw[HTN.out]
        exact HF6.out.lower (by omega)
     ·have hkf:Hid (k=(f:Int)):=A4 (by have:=HF2.out;omega)
      have hbi:k≤a:=by have:=hkf.out;omega
      rw[show(((a-f:Nat):Nat):Int)=(a:Int)-k by have:=hkf.out;omega]at HT
      go_wp2_with fail
      refine HT.out.mono ?_
      rintro e w2 ⟨u,L,m,z,rfl,hO,hLi,hL0,he2,hFN⟩;obtain⟨O',n',c',S',sn',sc',P',pn',pc',rfl,hOr⟩:=hO;have B62:=A4 (An.ext B6.out he2);obtain⟨d0,d1,d2,d3,d4,d5⟩:=Cg B62.out;obtain⟨f0,f1,f2,f3,f4,f5⟩:=Du B62.out;have hlt1:w.heap.size+1<w1.heap.size:=by omega
      have HO6:=A4 (Gk (show D3 w2 w1.heap.size _ _ from⟨O',n',c',S',sn',sc',P',pn',pc',rfl,hOr⟩) hlt1 (.slice O' n' c') (.int .i64 mo) (.int .i64 ((a-f:Nat):Int)) (.slice S' sn' sc') (.slice P' pn' pc') (.bool ol))
      have HL6:=A4 (Hh hLi hlt1 (.slice O' n' c') (.int .i64 mo) (.int .i64 ((a-f:Nat):Int)) (.slice S' sn' sc') (.slice P' pn' pc') (.bool ol));have HF6:=A4 (Ld hFN hlt1 (.slice O' n' c') (.int .i64 mo) (.int .i64 ((a-f:Nat):Int)) (.slice S' sn' sc') (.slice P' pn' pc') (.bool ol));have HX6:=A4 (Em (hx1.out.trans he2) (show w.heap.size≤w.heap.size+1 by omega) (.slice O' n' c') (.int .i64 mo) (.int .i64 ((a-f:Nat):Int)) (.slice S' sn' sc') (.slice P' pn' pc') (.bool ol))
      have hf6:=A4 (En B62.out (.slice O' n' c') (.int .i64 mo) (.int .i64 ((a-f:Nat):Int)) (.slice S' sn' sc') (.slice P' pn' pc') (.bool ol));have HL0:=A4 hL0;unfold Pg at HO6 HL6 HX6 hf6 HF6;clear hOr hLi hL0 he2 HT hFN;unfold Ce;simp only[toH];go_wp2_with fail
      refine bodyPost_ret (v:=.tuple #[.agg (Ce O' n' c' mo ((a-f:Nat):Int) S' sn' sc' P' pn' pc' ol),.slice L m z,.int .i64 0]) ?_ rfl ⟨HX6.out,.inl ⟨hok.out,_,L,m,z,rfl,?_,?_,HL0.out,?_⟩⟩
      ·exact I5
      ·rw[HTN.out]
       exact HO6.out.lower (by omega)
      ·exact I106
      ·rw[HTN.out]
       exact HF6.out.lower (by omega))
 ·have hxb:(x !=0)=true:=by simpa using hx0
  first
   |(
    guard_hyp N1
    have hno:Hid (¬(Ko ⟨ls,mo,at_,sl,pl,ol⟩ now k∧(Gc k:Int)+at_≤(ls.length:Int))):=A4 (fun hh=>hx0 (HG.out.2 hh.1)))
   |(
    guard_hyp N2
    have hno:Hid (¬(Ko ⟨ls,mo,at_,sl,pl,ol⟩ now k∧k≤(ls.length:Int)∧0<ls.length)):=A4 (fun hh=>hx0 (HG.out.2 hh.1)))
   |(
    have hno:Hid (¬(Ko ⟨ls,mo,at_,sl,pl,ol⟩ now k∧(Gc k:Int)≤at_)):=A4 (fun hh=>hx0 (HG.out.2 hh.1)))
  have hx0':=A4 hx0;clear hx0 HG;go_wp2_with fail
  refine bodyPost_ret (v:=.tuple #[.agg Dj,.slice none 0 0,.int .i64 x]) ?_ rfl ⟨HX.out,.inr ⟨hno.out,x,rfl,hx0'.out⟩⟩
  exact Dm rfl _ _ (w.heap.size+1) 54 _ _ _ _ _ rfl rfl rfl hfin.out Tryz.underlying54 rfl (Ek rfl)):p:=h
theorem K8 (h:p:=by
 have hnb:¬(([]:List Nat).length=0∧Hq b=0):=fun h=>hw0 h.2
 have hwi:((Hq b:Int)==0)=false:=by simp;omega
 obtain⟨wb,hwb⟩:∃wb,Hq b=wb:=⟨_,rfl⟩;rw[hwb]at HW hwi;clear hw0 hwb;go_wp2_with fail
 refine(HW.out _).mono ?_
 rintro e w' ⟨rfl,rfl⟩;clear HW
 first
  |(
   guard_hyp N1
   have Hfull:Hid ((([]:List Nat)++[b]).length=Hq (gN (([]:List Nat)++[b]) 0)→Jm ⟨ah,out⟩ b=⟨[],(out++[65533])++[(Gq (([]:List Nat)++[b]):Int)]⟩):=A4 fun h=>by
    exact I91
   have Hpart:Hid (¬(([]:List Nat)++[b]).length=Hq (gN (([]:List Nat)++[b]) 0)→Jm ⟨ah,out⟩ b=⟨([]:List Nat)++[b],(out++[65533])⟩):=A4 fun h=>by
    rw[HP.out];unfold Jx;rw[if_neg hnb];exact if_neg h)
  |(
   have Hfull:Hid ((([]:List Nat)++[b]).length=Hq (gN (([]:List Nat)++[b]) 0)→Jm ⟨[],out⟩ b=⟨[],out++[(Gq (([]:List Nat)++[b]):Int)]⟩):=A4 fun h=>by
    exact I91
   have Hpart:Hid (¬(([]:List Nat)++[b]).length=Hq (gN (([]:List Nat)++[b]) 0)→Jm ⟨[],out⟩ b=⟨([]:List Nat)++[b],out⟩):=A4 fun h=>by
    rw[HP.out];unfold Jx;rw[if_neg hnb];exact if_neg h)
 have Hlt:Hid (∀x∈([]:List Nat)++[b],x<256):=A4 (by
  intro x hx;rcases List.mem_append.1 hx with hx|hx
  ·exact HltA.out x hx
  ·obtain rfl:=List.mem_singleton.1 hx;exact hb256)
 have hap:=Ay.apart ho ha (by decide)
 have hnA:(Value.slice A 0 c).ownBlock≠some g:=fun e=>by have:=(Ay.blk ha g e).1;omega
 have hbl:=hb.lt;have HBB:=A4 hb;have HOO:=A4 ho;have HAP:=A4 hap;have HNA:=A4 hnA;clear hap hnA hb ho HP hnb;go_wp2_with (at_builtin;refine Ci rfl (.tmp 48) (.tmp 50) 81 rfl w0 (g+1) 5 i8 (.int .u8 0) 1 1 Tryz.underlying81 hi8 hy0 hy1 hy2 rfl (by decide) A 0 c _ rfl ha #[.int .u8 b] rfl ?_ rfl ?_ ?_ heW (by omega) hbl ?_)
 ·rfl
 ·unfold maxLen;omega
 ·omega
 first
  |(
   guard_hyp N1
   ·intro A2 c4 w3 hA2 hgr hor hx3
    have hb3:=HBB.out.grown hgr (fun e=>HNA.out e.symm)
    have c0:=hb3.cell 0;have f0:=hb3.frozen 0;simp only[List.getElem?_toArray,List.getElem?_cons_zero,List.getElem?_cons_succ]at c0;have hO3:=Ay.kept HOO.out hgr HAP.out;have hb4:An (w3.setCell ⟨g,0,none⟩ (.slice A2 1 c4)) g 83 #[.slice A2 1 c4,.slice O q' d]:=by simpa using hb3.set_ 0 (.slice A2 1 c4)
    have hA4:Ay (w3.setCell ⟨g,0,none⟩ (.slice A2 1 c4)) (g+1) 5 1 A2 1 c4 ((([]:List Nat)++[b]).map bv):=by
     exact I88
    have ho4:Av (w3.setCell ⟨g,0,none⟩ (.slice A2 1 c4)) (g+1) O q' d (out++[65533]):=Ay.setCell hO3 (p:=⟨g,0,none⟩) (Nat.lt_succ_self g) (.slice A2 1 c4);have hE4:=hx3.setCell (p:=⟨g,0,none⟩) hg (.slice A2 1 c4);have hgz:=hb3.lt;clear hA2 hgr hor hx3 hb3 hO3 HBB HOO HAP HNA ha heW k0 k1 f1;go_wp2_with fail
    clear c0 f0
    revert hb4 hA4 ho4 hE4
    generalize w3.setCell ⟨g,0,none⟩ (.slice A2 1 c4)=w4;intro hb4 hA4 ho4 hE4;obtain⟨bs,hbs⟩:∃bs,([]:List Nat)++[b]=bs:=⟨_,rfl⟩;rw[hbs]at hA4 Hfull Hpart Hlt;clear hbs;have hpl:bs.length=1:=by have:=(Ay.rd hA4).len;rw[List.length_map]at this;omega
    obtain⟨ad,hAe,hca⟩:=Yl (Ay.rd hA4) (k:=0) (by omega)
    rw[Dw]at hca;subst hAe;have k0:=hb4.cell 0;have k1:=hb4.cell 1;have f0:=hb4.frozen 0;have f1:=hb4.frozen 1;simp only[List.getElem?_toArray,List.getElem?_cons_zero,List.getElem?_cons_succ]at k0 k1;have HWh:=A4 (Ml (gN bs 0));have hcv:=Lu (Rd.ext (Ay.rd hA4) (Al.drew w4));have HG:Hid (∀wq,Calls Tryz.prog 76 #[.string (G0 bs)] wq fun e w'=>e=.returned (.tuple #[.int .i64 (Gq bs),.int .i64 (Jq bs),.int .i64 (Gp bs)])∧wq=w'):=A4 fun wq=>by
     exact I84
    have HB4:=A4 hb4;have HA4:=A4 hA4;have HO4:=A4 ho4;have HE4:=A4 hE4;have hpc:=(Ay.rd hA4).ncap;have hpm:=(Ay.rd hA4).nmax;unfold maxLen at hpm;have hg4:=hb4.lt;have hpl2:=A4 hpl;clear hb4 hA4 ho4 hE4 hpl;generalize hwz:Hq (gN bs 0)=wz at*;generalize gN bs 0=a0 at*;have Hwz:=A4 hwz;clear hwz;go_region_held3 (fun w'=>w'.cell? ⟨g,0,none⟩=some (.slice (some ad) 1 c4)∧w'.cell? ad=some (.int .u8 a0)) (first|assumption|exact⟨k0,hca⟩)
     ((go_at_call 75;refine(HWh.out _).mono ?_;rintro e w' ⟨rfl,rfl⟩))
    by_cases hfull:1=wz
    ·have hfi:((1:Int)==(wz:Int))=true:=by simp;omega
     have HR:=A4 (Hfull.out (by rw[hpl2.out];exact hfull))
     generalize Gq bs=gc at*;generalize Jq bs=gw at*;generalize Gp bs=ge at*;clear hfull;go_wp2_with fail
     refine(HG.out _).mono ?_
     rintro e w' ⟨rfl,rfl⟩;have hown:=Av.ext HO4.out (Al.drew w4);have hE5:=HE4.out.to_drew;have hg5:g+1≤w4.drew.heap.size:=hg4;clear hcv hca;go_wp2_with (at_builtin;refine Ci rfl (.tmp 81) (.tmp 83) 27 rfl w0 (g+1) 3 i0 (.int .i64 0) 1 8 Tryz.underlying27 hi hz0 hz1 hz2 rfl (by decide) O q' d _ rfl hown #[.int .i64 gc] rfl ?_ rfl ?_ ?_ hE5 (by omega) hg5 ?_)
     ·rfl
     ·unfold maxLen;omega
     ·omega
     ·intro O2 d2 w5 hO2 hgr hor hx3
      have hne:(Value.slice O q' d).ownBlock≠some g:=fun e=>by have:=(Ay.blk HO4.out g e).1;omega
      have hb5:=(HB4.out.drewN 1).grown hgr (fun e=>hne e.symm)
      have c0:=hb5.cell 0;have c1:=hb5.cell 1;have f0:=hb5.frozen 0;have f1:=hb5.frozen 1;simp only[List.getElem?_toArray,List.getElem?_cons_zero,List.getElem?_cons_succ]at c0 c1;have hb6:An (w5.setCell ⟨g,1,none⟩ (.slice O2 (q'+1) d2)) g 83 #[.slice (some ad) 1 c4,.slice O2 (q'+1) d2]:=by simpa using hb5.set_ 1 (.slice O2 (q'+1) d2)
      have f4:=hb6.frozen 0;have c6:=hb6.cell 0;simp only[List.getElem?_toArray,List.getElem?_cons_zero,List.getElem?_cons_succ]at c6;have hb7:An ((w5.setCell ⟨g,1,none⟩ (.slice O2 (q'+1) d2)).setCell ⟨g,0,none⟩ (.slice none 0 0)) g 83 #[.slice none 0 0,.slice O2 (q'+1) d2]:=by simpa using hb6.set_ 0 (.slice none 0 0)
      have hO5:Av ((w5.setCell ⟨g,1,none⟩ (.slice O2 (q'+1) d2)).setCell ⟨g,0,none⟩ (.slice none 0 0)) (g+1) O2 (q'+1) d2 ((out++[65533])++[(gc:Int)]):=by
       have:=Ay.setCell (Ay.setCell hO2 (p:=⟨g,1,none⟩) (Nat.lt_succ_self g) (.slice O2 (q'+1) d2)) (p:=⟨g,0,none⟩) (Nat.lt_succ_self g) (.slice none 0 0)
       simpa[Av]using this
      have HX:=A4 ((hx3.setCell (p:=⟨g,1,none⟩) hg (.slice O2 (q'+1) d2)).setCell (p:=⟨g,0,none⟩) hg (.slice none 0 0));have HF:Hid (Es ((w5.setCell ⟨g,1,none⟩ (.slice O2 (q'+1) d2)).setCell ⟨g,0,none⟩ (.slice none 0 0)) g ⟨[],(out++[65533])++[(gc:Int)]⟩):=A4 ⟨none,0,0,O2,q'+1,d2,hb7,Ay.nil _ _ _ _,hO5⟩;exact I136
    ·have hfi:((1:Int)==(wz:Int))=false:=by simp;omega
     have HR:=A4 (Hpart.out (by rw[hpl2.out];exact hfull))
     have HF:Hid (Es w4.drew g ⟨bs,(out++[65533])⟩):=A4 ⟨some ad,1,c4,O,q',d,HB4.out.drewN 1,Ay.ext HA4.out (Al.drew w4),Av.ext HO4.out (Al.drew w4)⟩;clear hfull hcv hca;go_wp2_with fail
     go_end0
     exact⟨rfl,by rw[HR.out];exact HF.out,HE4.out.to_drew⟩)
  |(
   ·intro A2 c4 w3 hA2 hgr hor hx3
    have hb3:=HBB.out.grown hgr (fun e=>HNA.out e.symm)
    have c0:=hb3.cell 0;have f0:=hb3.frozen 0;simp only[List.getElem?_toArray,List.getElem?_cons_zero,List.getElem?_cons_succ]at c0;have hO3:=Ay.kept HOO.out hgr HAP.out;have hb4:An (w3.setCell ⟨g,0,none⟩ (.slice A2 1 c4)) g 83 #[.slice A2 1 c4,.slice O q d]:=by simpa using hb3.set_ 0 (.slice A2 1 c4)
    have hA4:Ay (w3.setCell ⟨g,0,none⟩ (.slice A2 1 c4)) (g+1) 5 1 A2 1 c4 ((([]:List Nat)++[b]).map bv):=by
     exact I88
    have ho4:Av (w3.setCell ⟨g,0,none⟩ (.slice A2 1 c4)) (g+1) O q d out:=Ay.setCell hO3 (p:=⟨g,0,none⟩) (Nat.lt_succ_self g) (.slice A2 1 c4);have hE4:=hx3.setCell (p:=⟨g,0,none⟩) hg (.slice A2 1 c4);have hgz:=hb3.lt;clear hA2 hgr hor hx3 hb3 hO3 HBB HOO HAP HNA ha heW k0 k1 f1;go_wp2_with fail
    clear c0 f0
    revert hb4 hA4 ho4 hE4
    generalize w3.setCell ⟨g,0,none⟩ (.slice A2 1 c4)=w4;intro hb4 hA4 ho4 hE4;obtain⟨bs,hbs⟩:∃bs,([]:List Nat)++[b]=bs:=⟨_,rfl⟩;rw[hbs]at hA4 Hfull Hpart Hlt;clear hbs;have hpl:bs.length=1:=by have:=(Ay.rd hA4).len;rw[List.length_map]at this;omega
    obtain⟨ad,hAe,hca⟩:=Yl (Ay.rd hA4) (k:=0) (by omega)
    rw[Dw]at hca;subst hAe;have k0:=hb4.cell 0;have k1:=hb4.cell 1;have f0:=hb4.frozen 0;have f1:=hb4.frozen 1;simp only[List.getElem?_toArray,List.getElem?_cons_zero,List.getElem?_cons_succ]at k0 k1;have HWh:=A4 (Ml (gN bs 0));have hcv:=Lu (Rd.ext (Ay.rd hA4) (Al.drew w4));have HG:Hid (∀wq,Calls Tryz.prog 76 #[.string (G0 bs)] wq fun e w'=>e=.returned (.tuple #[.int .i64 (Gq bs),.int .i64 (Jq bs),.int .i64 (Gp bs)])∧wq=w'):=A4 fun wq=>by
     exact I84
    have HB4:=A4 hb4;have HA4:=A4 hA4;have HO4:=A4 ho4;have HE4:=A4 hE4;have hpc:=(Ay.rd hA4).ncap;have hpm:=(Ay.rd hA4).nmax;unfold maxLen at hpm;have hg4:=hb4.lt;have hpl2:=A4 hpl;clear hb4 hA4 ho4 hE4 hpl;generalize hwz:Hq (gN bs 0)=wz at*;generalize gN bs 0=a0 at*;have Hwz:=A4 hwz;clear hwz;go_region_held3 (fun w'=>w'.cell? ⟨g,0,none⟩=some (.slice (some ad) 1 c4)∧w'.cell? ad=some (.int .u8 a0)) (first|assumption|exact⟨k0,hca⟩)
     ((go_at_call 75;refine(HWh.out _).mono ?_;rintro e w' ⟨rfl,rfl⟩))
    by_cases hfull:1=wz
    ·have hfi:((1:Int)==(wz:Int))=true:=by simp;omega
     have HR:=A4 (Hfull.out (by rw[hpl2.out];exact hfull))
     generalize Gq bs=gc at*;generalize Jq bs=gw at*;generalize Gp bs=ge at*;clear hfull;go_wp2_with fail
     refine(HG.out _).mono ?_
     rintro e w' ⟨rfl,rfl⟩;have hown:=Av.ext HO4.out (Al.drew w4);have hE5:=HE4.out.to_drew;have hg5:g+1≤w4.drew.heap.size:=hg4;clear hcv hca;go_wp2_with (at_builtin;refine Ci rfl (.tmp 81) (.tmp 83) 27 rfl w0 (g+1) 3 i0 (.int .i64 0) 1 8 Tryz.underlying27 hi hz0 hz1 hz2 rfl (by decide) O q d _ rfl hown #[.int .i64 gc] rfl ?_ rfl ?_ ?_ hE5 (by omega) hg5 ?_)
     ·rfl
     ·unfold maxLen;omega
     ·omega
     ·intro O2 d2 w5 hO2 hgr hor hx3
      have hne:(Value.slice O q d).ownBlock≠some g:=fun e=>by have:=(Ay.blk HO4.out g e).1;omega
      have hb5:=(HB4.out.drewN 1).grown hgr (fun e=>hne e.symm)
      have c0:=hb5.cell 0;have c1:=hb5.cell 1;have f0:=hb5.frozen 0;have f1:=hb5.frozen 1;simp only[List.getElem?_toArray,List.getElem?_cons_zero,List.getElem?_cons_succ]at c0 c1;have hb6:An (w5.setCell ⟨g,1,none⟩ (.slice O2 (q+1) d2)) g 83 #[.slice (some ad) 1 c4,.slice O2 (q+1) d2]:=by simpa using hb5.set_ 1 (.slice O2 (q+1) d2)
      exact I4
    ·have hfi:((1:Int)==(wz:Int))=false:=by simp;omega
     have HR:=A4 (Hpart.out (by rw[hpl2.out];exact hfull))
     have HF:Hid (Es w4.drew g ⟨bs,out⟩):=A4 ⟨some ad,1,c4,O,q,d,HB4.out.drewN 1,Ay.ext HA4.out (Al.drew w4),Av.ext HO4.out (Al.drew w4)⟩;clear hfull hcv hca;go_wp2_with fail
     go_end0
     exact⟨rfl,by rw[HR.out];exact HF.out,HE4.out.to_drew⟩)):p:=h
theorem K9 (h:p:=by
 first
  |(
   guard_hyp N5
   obtain⟨h1,h2,h3,h4,h5,hr,ho2,hwt⟩:=Fu h;have HC:Hid (∀wq:World,_):=A4 fun(wq:World)=>Ul s k wq ⟨h3,h4⟩ hk
   obtain⟨c,hc⟩:∃c,Fb s k=c:=⟨_,rfl⟩;rw[hc]at HC;rw[hc];clear hc h1 h2 h3 h4 h5 hr ho2 hwt hk;have hob:(o !=0)=true:=by simpa using ho
   have hoc:(o==0)=false:=by simpa using ho
   clear ho;obtain⟨hb0,hb1,hb2,hx⟩:=three (w:=w) (.int .i64 f) (.int .i64 r) (.int .i64 o) (.int .i64 s) (.int .i64 0) (.int .i64 0) (.int .i64 0) (.int .i64 0) (.int .i64 0) (.int .i64 0) (.int .i64 0) (.int .i64 0) (.int .i64 0) (.int .i64 0) (.int .i64 0))
  |(
   (first|guard_hyp N6|guard_hyp N7)
   obtain⟨h1,h2,h3,h4,h5,hr,ho2,hwt⟩:=Fu h;have HC:Hid (∀wq:World,_):=A4 fun(wq:World)=>Kk ⟨f,r,o,s,0⟩ k 0 wq ⟨h1,h2⟩ ⟨h3,h4⟩
   unfold Ja pR at HC;simp only at HC;unfold M9 at HC;simp only at HC;obtain⟨Sc,ht⟩:∃Sc,Wy ⟨f,r,o,s,0⟩=Sc:=⟨_,rfl⟩;rw[ht]at HC;have HT:=A4 ht;clear ht h1 h2 h3 h4 h5 hr ho2 hwt;obtain⟨hb0,hb1,hb2,hx⟩:=three (w:=w) (.int .i64 f) (.int .i64 r) (.int .i64 o) (.int .i64 s) (.int .i64 0) (.int .i64 0) (.int .i64 0) (.int .i64 0) (.int .i64 0) (.int .i64 0) (.int .i64 0) (.int .i64 0) (.int .i64 0) (.int .i64 0) (.int .i64 0))
  |(
   guard_hyp N8
   have hob:(o==0)=false:=by simpa using ho
   have hoc:(o !=k)=false:=by simpa using hok
   clear ho hok;obtain⟨h1,h2,h3,h4,h5,hr,ho2,hwt⟩:=Fu h;have HC:Hid (∀wq:World,_):=A4 fun(wq:World)=>Kk ⟨f,r,o,s,0⟩ k 0 wq ⟨h1,h2⟩ ⟨h3,h4⟩
   unfold Ja pR at HC;simp only at HC;unfold M9 at HC;simp only at HC;obtain⟨Sc,ht⟩:∃Sc,Wy ⟨f,r,o,s,0⟩=Sc:=⟨_,rfl⟩;rw[ht]at HC;have HT:=A4 ht;clear ht h1 h2 h3 h4 h5 hr ho2 hwt;obtain⟨hb0,hb1,hb2,hx⟩:=three (w:=w) (.int .i64 f) (.int .i64 r) (.int .i64 o) (.int .i64 s) (.int .i64 0) (.int .i64 0) (.int .i64 0) (.int .i64 0) (.int .i64 0) (.int .i64 0) (.int .i64 0) (.int .i64 0) (.int .i64 0) (.int .i64 0) (.int .i64 0))
  |(
   guard_hyp N9
   obtain⟨h1,h2,h3,h4,h5,hr,ho2,hwt⟩:=Fu h;have HC:Hid (∀wq:World,_):=A4 fun(wq:World)=>Ul f k wq ⟨h1,h2⟩ hk
   obtain⟨c,hc⟩:∃c,Fb f k=c:=⟨_,rfl⟩;rw[hc]at HC;rw[hc];clear hc h1 h2 h3 h4 h5 hr ho2 hwt hk;obtain⟨hb0,hb1,hb2,hx⟩:=three (w:=w) (.int .i64 f) (.int .i64 r) (.int .i64 0) (.int .i64 s) (.int .i64 0) (.int .i64 0) (.int .i64 0) (.int .i64 0) (.int .i64 0) (.int .i64 0) (.int .i64 0) (.int .i64 0) (.int .i64 0) (.int .i64 0) (.int .i64 0))
  |(
   guard_hyp N10
   obtain⟨hb0,hb1,hb2,hx⟩:=three (w:=w) (.int .i64 f) (.int .i64 r) (.int .i64 0) (.int .i64 s) (.int .i64 0) (.int .i64 0) (.int .i64 0) (.int .i64 0) (.int .i64 0) (.int .i64 0) (.int .i64 0) (.int .i64 0) (.int .i64 0) (.int .i64 0) (.int .i64 0))
  |(
   guard_hyp N11
   have hob:(o==0)=false:=by simpa using ho
   have hoc:(o !=k)=true:=by simpa using hok
   clear ho hok;obtain⟨hb0,hb1,hb2,hx⟩:=three (w:=w) (.int .i64 f) (.int .i64 r) (.int .i64 o) (.int .i64 s) (.int .i64 0) (.int .i64 0) (.int .i64 0) (.int .i64 0) (.int .i64 0) (.int .i64 0) (.int .i64 0) (.int .i64 0) (.int .i64 0) (.int .i64 0) (.int .i64 0))
  |(
   obtain⟨hb0,hb1,hb2,hx⟩:=three (w:=w) (.int .i64 f) (.int .i64 r) (.int .i64 o) (.int .i64 s) (.int .i64 0) (.int .i64 0) (.int .i64 0) (.int .i64 0) (.int .i64 0) (.int .i64 0) (.int .i64 0) (.int .i64 0) (.int .i64 0) (.int .i64 0) (.int .i64 0))
 have HCk:Hid (∀wq:World,_):=A4 fun(wq:World)=>Qn wq h
 unfold Ja at HCk;simp only at HCk
 first
  |(
   (first|guard_hyp N9|guard_hyp N10)
   have HK:Hid (∀wq:World,_):=A4 fun(wq:World)=>S8 ⟨f,r,0,s,0⟩ k wq)
  |(
   have HK:Hid (∀wq:World,_):=A4 fun(wq:World)=>S8 ⟨f,r,o,s,0⟩ k wq)
 rw[hz]at HK;unfold Ja at HK;simp only at HK;have kb:(k==127)=false:=by simpa using h127
 clear hz;clear h;unfold Ja;simp only;go_enter Tryz.func33,Tryz.ntmps33
 go_wp2_with fail
 refine(HCk.out _).mono ?_
 rintro e w1 ⟨rfl,he1⟩;have HB0:=A4 (hb0.ext he1);have HB1:=A4 (hb1.ext he1);have HB2:=A4 (hb2.ext he1);have HEW:=A4 (hx.trans he1);obtain⟨⟨q0,q1,q2,q3,q4⟩,⟨r0,r1,r2,r3,r4⟩⟩:=HB0.out.five;clear hb0 hb1 hb2 hx HCk he1;go_wp2_with fail
 refine(HK.out _).mono ?_
 rintro e w2 ⟨rfl,he2⟩;have HD0:=A4 (HB0.out.ext he2);have HD1:=A4 (HB1.out.ext he2);have HD2:=A4 (HB2.out.ext he2);have HEX:=A4 (HEW.out.trans he2);clear HK HB0 HB1 HB2 HEW he2 q0 q1 q2 q3 q4 r0 r1 r2 r3 r4;obtain⟨⟨q0,q1,q2,q3,q4⟩,⟨r0,r1,r2,r3,r4⟩⟩:=HD0.out.five
 first
  |(
   (first|guard_hyp N0|guard_hyp N11)
   have hB1:=Cq (.int .i64 0) (.int .i64 0) (.int .i64 0) (.int .i64 0) (.int .i64 0) (Lk (.int .i64 0) (.int .i64 0) (.int .i64 0) (.int .i64 0) (.int .i64 0) HD1.out) (show w.heap.size+1+1≠w.heap.size+1 by omega)
   have hB2:=Lk (.int .i64 0) (.int .i64 0) (.int .i64 0) (.int .i64 0) (.int .i64 0) (Cq (.int .i64 0) (.int .i64 0) (.int .i64 0) (.int .i64 0) (.int .i64 0) HD2.out (show w.heap.size+1≠w.heap.size+1+1 by omega))
   have hend:=Df (.int .i64 0) (.int .i64 0) (.int .i64 0) (.int .i64 0) (.int .i64 0) (Df (.int .i64 0) (.int .i64 0) (.int .i64 0) (.int .i64 0) (.int .i64 0) HEX.out (Nat.le_succ w.heap.size)) (show w.heap.size≤w.heap.size+1+1 by omega))
  |(
   guard_hyp N5
   go_wp2_with fail
   refine(HC.out _).mono ?_
   rintro e w' ⟨rfl,rfl⟩;clear HC;have HF0:=A4 (show An (w2.setCell ⟨w.heap.size,3,none⟩ (.int .i64 c)) w.heap.size 36 #[.int .i64 f,.int .i64 r,.int .i64 o,.int .i64 c,.int .i64 0]from by simpa using HD0.out.set_ 3 (.int .i64 c))
   have HF1:=A4 (HD1.out.setNq (p:=⟨w.heap.size,3,none⟩) (show w.heap.size≠w.heap.size+1 by omega) (.int .i64 c))
   have HF2:=A4 (HD2.out.setNq (p:=⟨w.heap.size,3,none⟩) (show w.heap.size≠w.heap.size+1+1 by omega) (.int .i64 c))
   have HFE:=A4 (HEX.out.setCell (p:=⟨w.heap.size,3,none⟩) (Nat.le_refl _) (.int .i64 c));obtain⟨⟨s0,s1,s2,s3,s4⟩,_⟩:=HF0.out.five;have hB1:=Cq (.int .i64 0) (.int .i64 0) (.int .i64 0) (.int .i64 0) (.int .i64 0) (Lk (.int .i64 f) (.int .i64 r) (.int .i64 o) (.int .i64 c) (.int .i64 0) HF1.out) (show w.heap.size+1+1≠w.heap.size+1 by omega)
   have hB2:=Lk (.int .i64 0) (.int .i64 0) (.int .i64 0) (.int .i64 0) (.int .i64 0) (Cq (.int .i64 f) (.int .i64 r) (.int .i64 o) (.int .i64 c) (.int .i64 0) HF2.out (show w.heap.size+1≠w.heap.size+1+1 by omega))
   have hend:=Df (.int .i64 0) (.int .i64 0) (.int .i64 0) (.int .i64 0) (.int .i64 0) (Df (.int .i64 f) (.int .i64 r) (.int .i64 o) (.int .i64 c) (.int .i64 0) HFE.out (Nat.le_succ w.heap.size)) (show w.heap.size≤w.heap.size+1+1 by omega))
  |(
   (first|guard_hyp N6|guard_hyp N7|guard_hyp N8)
   go_wp2_with fail
   refine(HC.out _).mono ?_
   rintro e w3 ⟨rfl,he3⟩;have HF1:=A4 (HD1.out.ext he3);have HF2:=A4 (HD2.out.ext he3);have HFE:=A4 (HEX.out.trans he3);clear HC HD0 HD1 HD2 HEX he3;have hB1:=Cq (.int .i64 Sc) (.int .i64 r) (.int .i64 o) (.int .i64 k) (.int .i64 0) (Lk (.int .i64 0) (.int .i64 0) (.int .i64 0) (.int .i64 0) (.int .i64 0) HF1.out) (show w.heap.size+1+1≠w.heap.size+1 by omega)
   have hB2:=Lk (.int .i64 Sc) (.int .i64 r) (.int .i64 o) (.int .i64 k) (.int .i64 0) (Cq (.int .i64 0) (.int .i64 0) (.int .i64 0) (.int .i64 0) (.int .i64 0) HF2.out (show w.heap.size+1≠w.heap.size+1+1 by omega))
   have hend:=Df (.int .i64 Sc) (.int .i64 r) (.int .i64 o) (.int .i64 k) (.int .i64 0) (Df (.int .i64 0) (.int .i64 0) (.int .i64 0) (.int .i64 0) (.int .i64 0) HFE.out (Nat.le_succ w.heap.size)) (show w.heap.size≤w.heap.size+1+1 by omega))
  |(
   guard_hyp N9
   go_wp2_with fail
   refine(HC.out _).mono ?_
   rintro e w' ⟨rfl,rfl⟩;clear HC;have HF0:=A4 (show An (w2.setCell ⟨w.heap.size,0,none⟩ (.int .i64 c)) w.heap.size 36 #[.int .i64 c,.int .i64 r,.int .i64 0,.int .i64 s,.int .i64 0]from by simpa using HD0.out.set_ 0 (.int .i64 c))
   have HF1:=A4 (HD1.out.setNq (p:=⟨w.heap.size,0,none⟩) (show w.heap.size≠w.heap.size+1 by omega) (.int .i64 c))
   have HF2:=A4 (HD2.out.setNq (p:=⟨w.heap.size,0,none⟩) (show w.heap.size≠w.heap.size+1+1 by omega) (.int .i64 c))
   have HFE:=A4 (HEX.out.setCell (p:=⟨w.heap.size,0,none⟩) (Nat.le_refl _) (.int .i64 c));obtain⟨⟨s0,s1,s2,s3,s4⟩,_⟩:=HF0.out.five;have hB1:=Cq (.int .i64 0) (.int .i64 0) (.int .i64 0) (.int .i64 0) (.int .i64 0) (Lk (.int .i64 c) (.int .i64 r) (.int .i64 0) (.int .i64 s) (.int .i64 0) HF1.out) (show w.heap.size+1+1≠w.heap.size+1 by omega)
   have hB2:=Lk (.int .i64 0) (.int .i64 0) (.int .i64 0) (.int .i64 0) (.int .i64 0) (Cq (.int .i64 c) (.int .i64 r) (.int .i64 0) (.int .i64 s) (.int .i64 0) HF2.out (show w.heap.size+1≠w.heap.size+1+1 by omega))
   have hend:=Df (.int .i64 0) (.int .i64 0) (.int .i64 0) (.int .i64 0) (.int .i64 0) (Df (.int .i64 c) (.int .i64 r) (.int .i64 0) (.int .i64 s) (.int .i64 0) HFE.out (Nat.le_succ w.heap.size)) (show w.heap.size≤w.heap.size+1+1 by omega))
  |(
   guard_hyp N10
   have HF0:=A4 (show An (w2.setCell ⟨w.heap.size,2,none⟩ (.int .i64 k)) w.heap.size 36 #[.int .i64 f,.int .i64 r,.int .i64 k,.int .i64 s,.int .i64 0]from by simpa using HD0.out.set_ 2 (.int .i64 k))
   have HF1:=A4 (HD1.out.setNq (p:=⟨w.heap.size,2,none⟩) (show w.heap.size≠w.heap.size+1 by omega) (.int .i64 k))
   have HF2:=A4 (HD2.out.setNq (p:=⟨w.heap.size,2,none⟩) (show w.heap.size≠w.heap.size+1+1 by omega) (.int .i64 k))
   have HFE:=A4 (HEX.out.setCell (p:=⟨w.heap.size,2,none⟩) (Nat.le_refl _) (.int .i64 k));obtain⟨⟨s0,s1,s2,s3,s4⟩,_⟩:=HF0.out.five;have hB1:=Cq (.int .i64 0) (.int .i64 0) (.int .i64 0) (.int .i64 0) (.int .i64 0) (Lk (.int .i64 f) (.int .i64 r) (.int .i64 k) (.int .i64 s) (.int .i64 0) HF1.out) (show w.heap.size+1+1≠w.heap.size+1 by omega)
   have hB2:=Lk (.int .i64 0) (.int .i64 0) (.int .i64 0) (.int .i64 0) (.int .i64 0) (Cq (.int .i64 f) (.int .i64 r) (.int .i64 k) (.int .i64 s) (.int .i64 0) HF2.out (show w.heap.size+1≠w.heap.size+1+1 by omega))
   have hend:=Df (.int .i64 0) (.int .i64 0) (.int .i64 0) (.int .i64 0) (.int .i64 0) (Df (.int .i64 f) (.int .i64 r) (.int .i64 k) (.int .i64 s) (.int .i64 0) HFE.out (Nat.le_succ w.heap.size)) (show w.heap.size≤w.heap.size+1+1 by omega))
  |(
   have HF0:=A4 (show An (w2.setCell ⟨w.heap.size,4,none⟩ (.int .i64 k)) w.heap.size 36 #[.int .i64 f,.int .i64 r,.int .i64 o,.int .i64 s,.int .i64 k]from by simpa using HD0.out.set_ 4 (.int .i64 k))
   have HF1:=A4 (HD1.out.setNq (p:=⟨w.heap.size,4,none⟩) (show w.heap.size≠w.heap.size+1 by omega) (.int .i64 k))
   have HF2:=A4 (HD2.out.setNq (p:=⟨w.heap.size,4,none⟩) (show w.heap.size≠w.heap.size+1+1 by omega) (.int .i64 k))
   have HFE:=A4 (HEX.out.setCell (p:=⟨w.heap.size,4,none⟩) (Nat.le_refl _) (.int .i64 k));obtain⟨⟨s0,s1,s2,s3,s4⟩,_⟩:=HF0.out.five;have hB1:=Cq (.int .i64 0) (.int .i64 0) (.int .i64 0) (.int .i64 0) (.int .i64 0) (Lk (.int .i64 f) (.int .i64 r) (.int .i64 o) (.int .i64 s) (.int .i64 k) HF1.out) (show w.heap.size+1+1≠w.heap.size+1 by omega)
   have hB2:=Lk (.int .i64 0) (.int .i64 0) (.int .i64 0) (.int .i64 0) (.int .i64 0) (Cq (.int .i64 f) (.int .i64 r) (.int .i64 o) (.int .i64 s) (.int .i64 k) HF2.out (show w.heap.size+1≠w.heap.size+1+1 by omega))
   have hend:=Df (.int .i64 0) (.int .i64 0) (.int .i64 0) (.int .i64 0) (.int .i64 0) (Df (.int .i64 f) (.int .i64 r) (.int .i64 o) (.int .i64 s) (.int .i64 k) HFE.out (Nat.le_succ w.heap.size)) (show w.heap.size≤w.heap.size+1+1 by omega))
 obtain⟨⟨e0,e1,e2,e3,e4⟩,_⟩:=hB1.five;obtain⟨⟨d0,d1,d2,d3,d4⟩,_⟩:=hB2.five
 first
  |(
   (first|guard_hyp N0|guard_hyp N11)
   obtain⟨⟨c0,c1,c2,c3,c4⟩,⟨f0,f1,f2,f3,f4⟩⟩:=An.five HD1.out;obtain⟨⟨x0,x1,x2,x3,x4⟩,⟨y0,y1,y2,y3,y4⟩⟩:=An.five HD2.out)
  |(
   obtain⟨⟨c0,c1,c2,c3,c4⟩,⟨f0,f1,f2,f3,f4⟩⟩:=An.five HF1.out;obtain⟨⟨x0,x1,x2,x3,x4⟩,⟨y0,y1,y2,y3,y4⟩⟩:=An.five HF2.out)
 clear hB1 hB2
 first
  |(
   (first|guard_hyp N0|guard_hyp N6|guard_hyp N7|guard_hyp N8)
   clear q0 q1 q2 q3 q4 r0 r1 r2 r3 r4)
  |guard_hyp N11
  |(
   clear HD0 HD1 HD2 HEX)
 go_wp2_with fail
 refine bodyPost_ret (by simp[results,Tryz.results33,go_sem,e0,e1,e2,e3,e4,d0,d1,d2,d3,d4];try rfl) rfl ?_
 first
  |(
   (first|guard_hyp N6|guard_hyp N7|guard_hyp N8)
   exact⟨by rw[←HT.out];rfl,hend⟩)
  |(
   exact⟨rfl,hend⟩)):p:=h
theorem zX (h:p:=by
 first
  |(
   guard_hyp N1
   have hx:=Al.alloc w (.cells #[.int .i64 k1,.int .i64 k2,.int .i64 0,.int .i64 63,.int .i64 k5] 87);have hc:=An.new w 87 #[.int .i64 k1,.int .i64 k2,.int .i64 0,.int .i64 63,.int .i64 k5])
  |(
   have hx:=Al.alloc w (.cells #[.int .i64 k1,.int .i64 k2,.int .i64 0,.int .i64 47,.int .i64 k5] 87);have hc:=An.new w 87 #[.int .i64 k1,.int .i64 k2,.int .i64 0,.int .i64 47,.int .i64 k5])
 have HC:=A4 (Fs (h.ext hx).ses.dat.here.tr (by omega))
 have d0:=(h.ext hx).ses.blk.cell 0;have H:=A4 h;clear h;go_enter Tryz.func34,Tryz.ntmps34
 go_upto_region 1 with fail
 first
  |(
   guard_hyp N1
   generalize w.alloc (.cells #[.int .i64 k1,.int .i64 k2,.int .i64 0,.int .i64 63,.int .i64 k5] 87)=Wa at *)
  |(
   generalize w.alloc (.cells #[.int .i64 k1,.int .i64 k2,.int .i64 0,.int .i64 47,.int .i64 k5] 87)=Wa at *)
 have d0':Wa.cell? ⟨p,0,none⟩=some (.pointer v.tr):=d0;clear d0;go_wp2_with fail
 refine HC.out.mono ?_
 rintro e w1 ⟨_,rfl,⟨A,k,rfl,hA⟩,he⟩;have hx1:=hx.trans he;have hc1:=hc.ext he;have g0:w1.cell? ⟨w.heap.size,0,none⟩=some (.int .i64 k1):=hc1.cell 0;have g1:w1.cell? ⟨w.heap.size,1,none⟩=some (.int .i64 k2):=hc1.cell 1;have g2:w1.cell? ⟨w.heap.size,2,none⟩=some (.int .i64 0):=hc1.cell 2
 first
  |(
   guard_hyp N1
   have g3:w1.cell? ⟨w.heap.size,3,none⟩=some (.int .i64 63):=hc1.cell 3)
  |(
   have g3:w1.cell? ⟨w.heap.size,3,none⟩=some (.int .i64 47):=hc1.cell 3)
 have g4:w1.cell? ⟨w.heap.size,4,none⟩=some (.int .i64 k5):=hc1.cell 4;have HX1:=A4 hx1;have HC1:=A4 hc1;have HTr:Hid (∀s' w',Br p w1 col s' w'→Br p w col s' w'):=A4 fun s' w' hd=>Br.trans ⟨HX1.out.alt _,fun _ _ h=>h,fun _ _ h=>h⟩ hd
 clear hx hc d0' he HC hx1 hc1;go_upto_region 23 with fail
 have hb1:=H.out.ses.blk.ext (HX1.out.to_drew)
 first
  |(
   guard_hyp N1
   have hcd:An w1.drew w.heap.size 87 #[.int .i64 k1,.int .i64 k2,.int .i64 0,.int .i64 63,.int .i64 k5]:=HC1.out)
  |(
   have hcd:An w1.drew w.heap.size 87 #[.int .i64 k1,.int .i64 k2,.int .i64 0,.int .i64 47,.int .i64 k5]:=HC1.out)
 have hE1:=Al.drew w1;have cc:=Dh.start hE1 ((H.out.ses.blk.ext HX1.out).ext hE1);have hne:p≠w.heap.size:=by have:=H.out.ses.blk.lt;omega
 first
  |(
   guard_hyp N1
   refine wp_region_held_drew (S:=fun w'=>An w' w.heap.size 87 #[.int .i64 k1,.int .i64 k2,.int .i64 0,.int .i64 63,.int .i64 k5]) (by kernel_rfl) hcd (fun hS=>?_))
  |(
   refine wp_region_held_drew (S:=fun w'=>An w' w.heap.size 87 #[.int .i64 k1,.int .i64 k2,.int .i64 0,.int .i64 47,.int .i64 k5]) (by kernel_rfl) hcd (fun hS=>?_))
 clear g0 g1 g2 g3 g4;generalize w1.drew=cur at*;refine B8 (i:=0) (v:=(.pointer (some ⟨p,0,none⟩))) rfl hS ?_
 refine B8 (i:=1) (v:=(.pointer (some ⟨p,0,none⟩))) rfl hS ?_
 refine B8 (i:=2) (v:=(.pointer (some ⟨p,0,none⟩))) rfl hS ?_
 refine B8 (i:=3) (v:=(.pointer (some ⟨w.heap.size,3,none⟩))) rfl hS ?_
 first
  |(
   guard_hyp N1
   refine F4 (i:=4) (v:=(.int .i64 63)) rfl (fun w' hSw=>by have e0:w'.cell? ⟨w.heap.size,3,none⟩=some (.int .i64 63):=hSw.cell 3;go_simp) hS ?_
   refine B8 (i:=5) (v:=(.bool false)) rfl hS ?_)
  |(
   refine F4 (i:=4) (v:=(.int .i64 47)) rfl (fun w' hSw=>by have e0:w'.cell? ⟨w.heap.size,3,none⟩=some (.int .i64 47):=hSw.cell 3;go_simp) hS ?_
   refine B8 (i:=5) (v:=(.bool true)) rfl hS ?_)
 refine B8 (i:=6) (v:=(.pointer (some ⟨p,0,none⟩))) rfl hS ?_
 refine B8 (i:=7) (v:=(.pointer (some ⟨p,2,none⟩))) rfl hS ?_
 have g2:cur.cell? ⟨p,2,none⟩=some (.int .i64 s.mode):=cc.blk.cell 2;have f2:=cc.blk.frozen 2;refine wpAnyH_ready (rs:=[8]) (by decide +kernel) (by simp) (AllReadyH.cons rfl (fun K hK=>?_) AllReadyH.nil)
 go_simp
 refine hK.out _ _ (Fv hS hne) (fun hS'=>?_)
 replace hS:=hS';clear hK K hS' g2 f2;replace cc:=cc.set 2 (.int .i64 3);generalize World.setCell _ _ _=W2 at*
 try simp only[List.getElem_toArray,List.getElem_cons_zero,List.getElem_cons_succ,Act.put,List.setIfInBounds_toArray,List.set_cons_zero,List.set_cons_succ]
 refine B8 (i:=9) (v:=(.pointer (some ⟨p,0,none⟩))) rfl hS ?_
 refine B8 (i:=10) (v:=(.pointer (some ⟨p,48,none⟩))) rfl hS ?_
 have g48:W2.cell? ⟨p,48,none⟩=some v.ask:=cc.blk.cell 48;have f48:=cc.blk.frozen 48;refine wpAnyH_ready (rs:=[11]) (by decide +kernel) (by simp) (AllReadyH.cons rfl (fun K hK=>?_) AllReadyH.nil)
 go_simp
 refine hK.out _ _ (Fv hS hne) (fun hS'=>?_)
 replace hS:=hS';clear hK K hS' g48 f48;replace cc:=cc.set 48 nl;unfold nl at cc;generalize World.setCell _ _ _=W3 at*
 try simp only[List.getElem_toArray,List.getElem_cons_zero,List.getElem_cons_succ,Act.put,List.setIfInBounds_toArray,List.set_cons_zero,List.set_cons_succ]
 refine B8 (i:=12) (v:=(.pointer (some ⟨p,0,none⟩))) rfl hS ?_
 refine B8 (i:=13) (v:=(.pointer (some ⟨p,49,none⟩))) rfl hS ?_
 have g49:W3.cell? ⟨p,49,none⟩=some (.bool s.older):=cc.blk.cell 49;have f49:=cc.blk.frozen 49;refine wpAnyH_ready (rs:=[14]) (by decide +kernel) (by simp) (AllReadyH.cons rfl (fun K hK=>?_) AllReadyH.nil)
 go_simp
 refine hK.out _ _ (Fv hS hne) (fun hS'=>?_)
 clear hK K hS hS' g49 f49
 first
  |(
   guard_hyp N1
   replace cc:=cc.set 49 (.bool false))
  |(
   replace cc:=cc.set 49 (.bool true))
 generalize World.setCell _ _ _=W4 at*
 first
  |(
   guard_hyp N1
   have HR:=A4 ((H.out.ext HX1.out).chain cc { v with ask:=nl } (fL s false) (by kernel_rfl) (fun w'' _ ht hd=>⟨hd.1,hd.2,hd.3,hd.4,hd.5,hd.6,Bg.nil w'' 0,hd.8⟩)))
  |(
   have HR:=A4 ((H.out.ext HX1.out).chain cc { v with ask:=nl } (fL s true) (by kernel_rfl) (fun w'' _ ht hd=>⟨hd.1,hd.2,hd.3,hd.4,hd.5,hd.6,Bg.nil w'' 0,hd.8⟩)))
 clear cc;refine wpAnyH_done (by kernel_rfl) ?_ _
 go_wp2_with fail
 go_end0
 exact⟨rfl,HTr.out _ _ ⟨_,_,HR.out⟩⟩):p:=h
theorem zW (h:p:=by
 first
  |(
   guard_hyp N1
   have HNO:Hid (¬(Cb l k big<l.length∧(Au l big k=0∨Au l big (Cb l k big)=0))):=A4 (fun h=>by rw[hlen.out]at h;omega)
   by_cases hbl:Bf (gI l k) big=0
   ·have b1:(Bf (gI l k) big==0)=true:=by simpa using hbl
    have HW:Hid (Wu l k big=(Di l k big,Cb l k big)):=A4 (by unfold Wu;rw[if_neg HNO.out,if_neg (fun h=>h.1 (by rw[hkk.out];exact hbl))])
    clear hbl;have f0:=hq.frozen 0;have f1:=hq.frozen 1;have c4:=hq.cell 0;have c5:=hq.cell 1;simp only[List.getElem?_toArray,List.getElem?_cons_zero,List.getElem?_cons_succ]at c4 c5;go_wp2_with fail
    have hbf:An ((w2.setCell ⟨w.heap.size,0,none⟩ (.int .i64 (Di l k big))).setCell ⟨w.heap.size,1,none⟩ (.int .i64 (Cb l k big))) w.heap.size 213 #[.int .i64 (Di l k big),.int .i64 (Cb l k big)]:=by
     exact I107
    have c6:=hbf.cell 0;have c7:=hbf.cell 1;simp only[List.getElem?_toArray,List.getElem?_cons_zero,List.getElem?_cons_succ]at c6 c7;clear c4 c5 f0 f1 c0 c1 hbf;refine bodyPost_ret (by simp[results,Tryz.results137,go_sem,c6,c7];try rfl) rfl ?_
    exact⟨by rw[HW.out]<;>rfl,(hef.setCell (by simp) _).setCell (by simp) _⟩)
  |(
   have b1:(Bf (gI l k) big==0)=false:=by simpa using hbl
   have HBL:=A4 hbl;clear hbl;go_wp2_with fail
   refine(Gx _ _ _).mono ?_
   rintro e w3 ⟨rfl,rfl⟩;by_cases hz:Bf (gI l (Cb l k big)) big=0
   ·have b2:(Bf (gI l (Cb l k big)) big==0)=true:=by simpa using hz
    have HW:Hid (Wu l k big=(Di l k big,Cb l (Cb l k big) big)):=A4 (by unfold Wu;rw[if_pos ⟨by rw[hlen.out];exact hlt,.inr (by rw[HIN.out _ hlt];exact hz)⟩])
    clear hz;go_wp2_with fail
    refine(Kg (k:=(Cb l k big)) (big:=big) hlX hn hlt).mono ?_
    rintro e w3 ⟨rfl,he3⟩;rw[show Ga l big (Au l big ((Cb l k big):Nat)) (Cb l k big)=Di l (Cb l k big) big from rfl,show Eg l big (Au l big ((Cb l k big):Nat)) (Cb l k big)=Cb l (Cb l k big) big from rfl]
    have hq3:=hq.ext he3;have hr3:=hr.ext he3;have hef3:=hef.trans he3;have g0:=hr3.frozen 1;have e0:=hr3.cell 0;have e1:=hr3.cell 1;have f0:=hq3.frozen 0;have f1:=hq3.frozen 1;have c4:=hq3.cell 0;have c5:=hq3.cell 1;simp only[List.getElem?_toArray,List.getElem?_cons_zero,List.getElem?_cons_succ]at c4 c5 e0 e1;clear c0 c1;have n1:¬w1.heap.size=w.heap.size:=by omega
    have n2:¬w.heap.size=w1.heap.size:=by omega
    have hfd:=Rw (.int .i64 (Di l (Cb l k big) big)) (.int .i64 (Cb l (Cb l k big) big)) w3;go_wp2_with fail
    have hbf:An (((w3.setCell ⟨w1.heap.size,1,none⟩ (.int .i64 (Cb l (Cb l k big) big))).setCell ⟨w.heap.size,0,none⟩ (.int .i64 (Di l k big))).setCell ⟨w.heap.size,1,none⟩ (.int .i64 (Cb l (Cb l k big) big))) w.heap.size 213 #[.int .i64 (Di l k big),.int .i64 (Cb l (Cb l k big) big)]:=by
     exact I48
    have c6:=hbf.cell 0;have c7:=hbf.cell 1;simp only[List.getElem?_toArray,List.getElem?_cons_zero,List.getElem?_cons_succ]at c6 c7;clear c4 c5 f0 f1 e0 e1 g0 hfd hbf;refine bodyPost_ret (by simp[results,Tryz.results137,go_sem,c6,c7];try rfl) rfl ?_
    exact⟨by rw[HW.out]<;>rfl,((hef3.setCell (p:=⟨w1.heap.size,1,none⟩) (Nat.le_of_lt hw1) _).setCell (by simp) _).setCell (by simp) _⟩)
 ·first
   |(
    guard_hyp N1
    have b1:(Bf (gI l k) big==0)=false:=by simpa using hbl
    have HBL:=A4 hbl;clear hbl)
   |(
    have b2:(Bf (gI l (Cb l k big)) big==0)=false:=by simpa using hz
    have HNO:Hid (¬(Cb l k big<l.length∧(Au l big k=0∨Au l big (Cb l k big)=0))):=A4 (fun h=>by
     rcases h.2 with h|h
     ·exact HBL.out (by rw[←hkk.out];exact h)
     ·exact hz (by rw[←HIN.out _ hlt];exact h))
    clear hz)
  have HW0:Hid (Wu l k big=if Au l big k≠0∧0<Di l k big∧Au l big (Di l k big-1:Nat)=0 then(Di l (Di l k big-1) big,Cb l k big)else(Di l k big,Cb l k big)):=A4 (by unfold Wu;rw[if_neg HNO.out])
  rcases Nat.eq_zero_or_pos (Di l k big)with hF|hF
  ·have HW:Hid (Wu l k big=(0,Cb l k big)):=A4 (by rw[HW0.out,if_neg (fun h=>by omega),hF])
   rw[hF]at c0 hr;have c0z:w2.cell? ⟨w1.heap.size,0,none⟩=some (.int .i64 0):=c0;clear c0 hF;have c0:=c0z;clear c0z;have f0:=hq.frozen 0;have f1:=hq.frozen 1;have c4:=hq.cell 0;have c5:=hq.cell 1;simp only[List.getElem?_toArray,List.getElem?_cons_zero,List.getElem?_cons_succ]at c4 c5;go_wp2_with fail
   have hbf:An ((w2.setCell ⟨w.heap.size,0,none⟩ (.int .i64 0)).setCell ⟨w.heap.size,1,none⟩ (.int .i64 (Cb l k big))) w.heap.size 213 #[.int .i64 0,.int .i64 (Cb l k big)]:=by
    simpa using(hq.set_ 0 (.int .i64 0)).set_ 1 (.int .i64 (Cb l k big))
   have c6:=hbf.cell 0;have c7:=hbf.cell 1;simp only[List.getElem?_toArray,List.getElem?_cons_zero,List.getElem?_cons_succ]at c6 c7;clear c4 c5 f0 f1 c0 c1 hbf;refine bodyPost_ret (by simp[results,Tryz.results137,go_sem,c6,c7];try rfl) rfl ?_
   exact⟨by rw[HW.out]<;>rfl,(hef.setCell (by simp) _).setCell (by simp) _⟩
  ·obtain⟨g,hg⟩:∃g,Di l k big=g+1:=⟨Di l k big-1,by omega⟩
   have hgn:g<n:=by omega
   have dG:=hef.cell (HC.out g hgn);rw[hg]at c0 hr;have HG:=A4 hg;clear hg hF;go_wp2_with fail
   refine(Gx _ _ _).mono ?_
   rintro e w3 ⟨rfl,rfl⟩;by_cases hz:Bf (gI l g) big=0
   ·have b3:(Bf (gI l g) big==0)=true:=by simpa using hz
    have HW:Hid (Wu l k big=(Di l g big,Cb l k big)):=A4 (by
     rw[HW0.out,HG.out,Nat.add_sub_cancel,if_pos ⟨by rw[hkk.out];exact HBL.out,by omega,by rw[HIN.out g hgn];exact hz⟩])
    clear hz;go_wp2_with fail
    refine(Kg (k:=g) (big:=big) hlX hn hgn).mono ?_
    rintro e w3 ⟨rfl,he3⟩;rw[show Ga l big (Au l big (g:Nat)) g=Di l g big from rfl,show Eg l big (Au l big (g:Nat)) g=Cb l g big from rfl]
    have hq3:=hq.ext he3;have hr3:=hr.ext he3;have hef3:=hef.trans he3;have g0:=hr3.frozen 0;have e0:=hr3.cell 0;have e1:=hr3.cell 1;have f0:=hq3.frozen 0;have f1:=hq3.frozen 1;have c4:=hq3.cell 0;have c5:=hq3.cell 1;simp only[List.getElem?_toArray,List.getElem?_cons_zero,List.getElem?_cons_succ]at c4 c5 e0 e1;clear c0 c1;have n1:¬w1.heap.size=w.heap.size:=by omega
    have n2:¬w.heap.size=w1.heap.size:=by omega
    have hfd:=Zu (.int .i64 (Di l g big)) (.int .i64 (Cb l g big)) w3;go_wp2_with fail
    have hbf:An (((w3.setCell ⟨w1.heap.size,0,none⟩ (.int .i64 (Di l g big))).setCell ⟨w.heap.size,0,none⟩ (.int .i64 (Di l g big))).setCell ⟨w.heap.size,1,none⟩ (.int .i64 (Cb l k big))) w.heap.size 213 #[.int .i64 (Di l g big),.int .i64 (Cb l k big)]:=by
     simpa using((hq3.keepCell2 (p:=⟨w1.heap.size,0,none⟩) n1 (.int .i64 (Di l g big))).set_ 0 (.int .i64 (Di l g big))).set_ 1 (.int .i64 (Cb l k big))
    have c6:=hbf.cell 0;have c7:=hbf.cell 1;simp only[List.getElem?_toArray,List.getElem?_cons_zero,List.getElem?_cons_succ]at c6 c7;clear c4 c5 f0 f1 e0 e1 g0 hfd hbf;refine bodyPost_ret (by simp[results,Tryz.results137,go_sem,c6,c7];try rfl) rfl ?_
    exact⟨by rw[HW.out]<;>rfl,((hef3.setCell (p:=⟨w1.heap.size,0,none⟩) (Nat.le_of_lt hw1) _).setCell (by simp) _).setCell (by simp) _⟩
   ·have b3:(Bf (gI l g) big==0)=false:=by simpa using hz
    have HW:Hid (Wu l k big=(g+1,Cb l k big)):=A4 (by
     rw[HW0.out,HG.out,Nat.add_sub_cancel,if_neg (fun h=>hz (by rw[←HIN.out g hgn];exact h.2.2))])
    clear hz;have f0:=hq.frozen 0;have f1:=hq.frozen 1;have c4:=hq.cell 0;have c5:=hq.cell 1;simp only[List.getElem?_toArray,List.getElem?_cons_zero,List.getElem?_cons_succ]at c4 c5;go_wp2_with fail
    have hbf:An ((w2.setCell ⟨w.heap.size,0,none⟩ (.int .i64 ((g:Int)+1))).setCell ⟨w.heap.size,1,none⟩ (.int .i64 (Cb l k big))) w.heap.size 213 #[.int .i64 ((g:Int)+1),.int .i64 (Cb l k big)]:=by
     simpa using(hq.set_ 0 (.int .i64 ((g:Int)+1))).set_ 1 (.int .i64 (Cb l k big))
    have c6:=hbf.cell 0;have c7:=hbf.cell 1;simp only[List.getElem?_toArray,List.getElem?_cons_zero,List.getElem?_cons_succ]at c6 c7;clear c4 c5 f0 f1 c0 c1 hbf;refine bodyPost_ret (by simp[results,Tryz.results137,go_sem,c6,c7];try rfl) rfl ?_
    exact⟨by rw[HW.out]<;>rfl,(hef.setCell (by simp) _).setCell (by simp) _⟩):p:=h
theorem zV (h:p:=by
 subst hv
 first
  |(
   guard_hyp N1
   have HOf:Hid (∀wy,Al wd wy→Calls Tryz.prog 123 #[.slice A n c,.int .i64 (a:Int),.bool true,.int .i64 k5] wy fun e w'=>(∃x y er,kF l a true k5 x y er∧e=.returned (.tuple #[.int .i64 x,.int .i64 y,.int .i64 er]))∧Al wy w'):=A4 fun wy he=>
    Vs (HIq.out.line.ext (HIq.out.ext.trans he)) HIq.out.nums (by have:=HIq.out.len;omega) (by have:=HIq.out.place;omega))
  |(
   have HOf:Hid (∀wy,Al wd wy→Calls Tryz.prog 123 #[.slice A n c,.int .i64 (a:Int),.bool false,.int .i64 k5] wy fun e w'=>(∃x y er,kF l a false k5 x y er∧e=.returned (.tuple #[.int .i64 x,.int .i64 y,.int .i64 er]))∧Al wy w'):=A4 fun wy he=>
    Vs (HIq.out.line.ext (HIq.out.ext.trans he)) HIq.out.nums (by have:=HIq.out.len;omega) (by have:=HIq.out.place;omega))
 clear HIA;go_upto_region 32 with fail
 first
  |(
   guard_hyp N1
   refine wp_region_held_drew (S:=fun w'=>w'.cell? ⟨g,0,none⟩=some (.slice A n c)∧w'.cell? ⟨g,1,none⟩=some (.int .i64 (a:Int))∧w'.cell? ⟨g,32,none⟩=some (.int .i64 97)∧w'.cell? ⟨g,33,none⟩=some (.int .i64 k5)) (by kernel_rfl) ⟨c0,c1,c32,c33⟩ (fun hHeld=>?_))
  |(
   refine wp_region_held_drew (S:=fun w'=>w'.cell? ⟨g,0,none⟩=some (.slice A n c)∧w'.cell? ⟨g,1,none⟩=some (.int .i64 (a:Int))∧w'.cell? ⟨g,32,none⟩=some (.int .i64 105)∧w'.cell? ⟨g,33,none⟩=some (.int .i64 k5)) (by kernel_rfl) ⟨c0,c1,c32,c33⟩ (fun hHeld=>?_))
 refine Bo (i:=0) (v:=(.pointer (some ⟨g,0,none⟩))) rfl hHeld ?_
 refine Bo (i:=1) (v:=(.pointer (some ⟨g,0,none⟩))) rfl hHeld ?_
 refine Bo (i:=2) (v:=(.pointer (some ⟨g,0,none⟩))) rfl hHeld ?_
 refine Bo (i:=3) (v:=(.pointer (some ⟨g,0,none⟩))) rfl hHeld ?_
 refine Bo (i:=4) (v:=(.slice A n c)) rfl hHeld ?_
 refine Bo (i:=5) (v:=(.pointer (some ⟨g,0,none⟩))) rfl hHeld ?_
 refine Bo (i:=6) (v:=(.pointer (some ⟨g,0,none⟩))) rfl hHeld ?_
 refine Bo (i:=7) (v:=(.pointer (some ⟨g,0,none⟩))) rfl hHeld ?_
 refine Bo (i:=8) (v:=(.pointer (some ⟨g,1,none⟩))) rfl hHeld ?_
 refine Bo (i:=9) (v:=(.int .i64 (a:Int))) rfl hHeld ?_
 refine Bo (i:=10) (v:=(.pointer (some ⟨g,0,none⟩))) rfl hHeld ?_
 refine Bo (i:=11) (v:=(.pointer (some ⟨g,0,none⟩))) rfl hHeld ?_
 refine Bo (i:=12) (v:=(.pointer (some ⟨g,29,none⟩))) rfl hHeld ?_
 refine Bo (i:=13) (v:=(.pointer (some ⟨g,32,none⟩))) rfl hHeld ?_
 first
  |(
   guard_hyp N1
   refine Bo (i:=14) (v:=(.int .i64 97)) rfl hHeld ?_
   refine Bo (i:=15) (v:=(.bool true)) rfl hHeld ?_)
  |(
   refine Bo (i:=14) (v:=(.int .i64 105)) rfl hHeld ?_
   refine Bo (i:=15) (v:=(.bool false)) rfl hHeld ?_)
 refine Bo (i:=16) (v:=(.pointer (some ⟨g,0,none⟩))) rfl hHeld ?_
 refine Bo (i:=17) (v:=(.pointer (some ⟨g,0,none⟩))) rfl hHeld ?_
 refine Bo (i:=18) (v:=(.pointer (some ⟨g,29,none⟩))) rfl hHeld ?_
 refine Bo (i:=19) (v:=(.pointer (some ⟨g,33,none⟩))) rfl hHeld ?_
 refine Bo (i:=20) (v:=(.int .i64 k5)) rfl hHeld ?_
 refine wpAnyH_ready (rs:=[21]) (by kernel_rfl) (by simp) ?_
 refine AllReadyH.cons rfl (fun K hK=>?_) AllReadyH.nil
 first
  |(
   guard_hyp N1
   refine Bs rfl 123 #[.slice A n c,.int .i64 (a:Int),.bool true,.int .i64 k5] rfl (by kernel_rfl) (fun u w'=>∃x y er:Int,u=.tuple #[.int .i64 x,.int .i64 y,.int .i64 er]∧kF l a true k5 x y er∧Al wd.drew w') ((HOf.out _ (Al.drew wd)).mono fun e w' ⟨⟨x,y,er,h1,h2⟩,h3⟩=>⟨_,h2,x,y,er,rfl,h1,h3⟩) ?_)
  |(
   refine Bs rfl 123 #[.slice A n c,.int .i64 (a:Int),.bool false,.int .i64 k5] rfl (by kernel_rfl) (fun u w'=>∃x y er:Int,u=.tuple #[.int .i64 x,.int .i64 y,.int .i64 er]∧kF l a false k5 x y er∧Al wd.drew w') ((HOf.out _ (Al.drew wd)).mono fun e w' ⟨⟨x,y,er,h1,h2⟩,h3⟩=>⟨_,h2,x,y,er,rfl,h1,h3⟩) ?_)
 rintro u W1 ⟨x,y,er,rfl,hR,hxc⟩;refine hK.out _ _ ⟨hxc.cell c0,hxc.cell c1,hxc.cell c32,hxc.cell c33⟩ (fun hHeld2=>?_)
 clear hK K hHeld
 try simp only[List.getElem_toArray,List.getElem_cons_zero,List.getElem_cons_succ,Act.put,List.setIfInBounds_toArray,List.set_cons_zero,List.set_cons_succ]
 refine Bo (i:=22) (v:=(.tuple #[.int .i64 x,.int .i64 y,.int .i64 er])) rfl hHeld2 ?_
 refine Bo (i:=23) (v:=(.int .i64 x)) rfl hHeld2 ?_
 refine Bo (i:=24) (v:=(.int .i64 y)) rfl hHeld2 ?_
 refine Bo (i:=25) (v:=(.int .i64 er)) rfl hHeld2 ?_
 refine Bo (i:=26) (v:=(.int .i64 x)) rfl hHeld2 ?_
 refine Bo (i:=27) (v:=(.int .i64 y)) rfl hHeld2 ?_
 refine Bo (i:=28) (v:=(.int .i64 er)) rfl hHeld2 ?_
 refine wpAnyH_done (by kernel_rfl) ?_ _
 have HI1:=A4 ((HIq.out.wext (Al.drew wd)).wext hxc);have HG1:=A4 (Co HGq.out (Ev ((Al.drew wd).trans hxc) (some g)));clear c0 c1 c31 c32 c33 hHeld2 HOf hxc HIq HGq HI' HG' hvb;by_cases her:er=0
 first
  |(
   guard_hyp N1
   case neg=>
    have HF:Hid (Ch g w (Lz l n a rl k1 k2 o 97 k5 fk fa POk) (Fr g l n a rl k1 k2 o 97 k5 fk fa PPost) (.returned (.int .i64 er)) W1):=A4 ⟨er,cs',rfl,HG1.out,fun h=>absurd ((h.2.2 HM.out HO.out).span HV.out rfl hR).1 her,fun h=>absurd h her⟩
    clear hR;go_wp2_with fail
    go_ret
    exact HF.out)
  |(
   case neg=>
    have HF:Hid (Ch g w (Lz l n a rl k1 k2 o 105 k5 fk fa POk) (Fr g l n a rl k1 k2 o 105 k5 fk fa PPost) (.returned (.int .i64 er)) W1):=A4 ⟨er,cs',rfl,HG1.out,fun h=>absurd ((h.2.2 HM.out HO.out).span HV.out rfl hR).1 her,fun h=>absurd h her⟩
    clear hR;go_wp2_with fail
    go_ret
    exact HF.out)
 subst her;obtain⟨f,t,rfl,rfl,hft,htn⟩:=xM hR;rw[hln.out]at htn;have HR:=A4 hR;have HFT:=A4 (And.intro hft htn);have HOp:=A4 (Pb (f:=f) (t:=t) (whole:=false) HI1.out hft htn HO3.out);clear hR hft htn;go_wp2_with fail
 refine HOp.out.mono ?_
 rintro e w3 hd
 first
  |(
   guard_hyp N1
   have HF:Hid (Ch g w (Lz l n a rl k1 k2 o 97 k5 fk fa POk) (Fr g l n a rl k1 k2 o 97 k5 fk fa PPost) e w3):=A4 (hd.from HG1.out (fun h=>(h.2.2 HM.out HO.out).span' HV.out rfl HR.out) (fun cs h=>by
    obtain⟨m,at_,md,rl',e',h1,h2⟩:=h;exact .inr (.inr ⟨HM.out,HO.out,f,t,false,m,at_,md,rl',e',HFT.out.1,HFT.out.2,.inr ⟨HV.out,.inr rfl,rfl,HR.out⟩,h1,h2⟩))))
  |(
   have HF:Hid (Ch g w (Lz l n a rl k1 k2 o 105 k5 fk fa POk) (Fr g l n a rl k1 k2 o 105 k5 fk fa PPost) e w3):=A4 (hd.from HG1.out (fun h=>(h.2.2 HM.out HO.out).span' HV.out rfl HR.out) (fun cs h=>by
    obtain⟨m,at_,md,rl',e',h1,h2⟩:=h;exact .inr (.inr ⟨HM.out,HO.out,f,t,false,m,at_,md,rl',e',HFT.out.1,HFT.out.2,.inr ⟨HV.out,.inl rfl,rfl,HR.out⟩,h1,h2⟩))))
 obtain⟨er2,cs3,rfl,_⟩:=hd;clear HOp;go_wp2_with fail
 go_ret
 exact HF.out):p:=h
theorem wZ (h:p:=by
 first
  |(
   guard_hyp N1
   have hx:=Al.alloc w (.cells #[.int .i64 k1,.int .i64 k2,.int .i64 0,.int .i64 106,.int .i64 k5] 87);have hc:=An.new w 87 #[.int .i64 k1,.int .i64 k2,.int .i64 0,.int .i64 106,.int .i64 k5])
  |(
   guard_hyp N2
   have hx:=Al.alloc w (.cells #[.int .i64 k1,.int .i64 k2,.int .i64 0,.int .i64 71,.int .i64 k5] 87);have hc:=An.new w 87 #[.int .i64 k1,.int .i64 k2,.int .i64 0,.int .i64 71,.int .i64 k5])
  |(
   guard_hyp N3
   have hx:=Al.alloc w (.cells #[.int .i64 k1,.int .i64 k2,.int .i64 0,.int .i64 110,.int .i64 k5] 87);have hc:=An.new w 87 #[.int .i64 k1,.int .i64 k2,.int .i64 0,.int .i64 110,.int .i64 k5])
  |(
   guard_hyp N4
   have hx:=Al.alloc w (.cells #[.int .i64 k1,.int .i64 k2,.int .i64 0,.int .i64 78,.int .i64 k5] 87);have hc:=An.new w 87 #[.int .i64 k1,.int .i64 k2,.int .i64 0,.int .i64 78,.int .i64 k5])
  |(
   have hx:=Al.alloc w (.cells #[.int .i64 k1,.int .i64 k2,.int .i64 0,.int .i64 107,.int .i64 k5] 87);have hc:=An.new w 87 #[.int .i64 k1,.int .i64 k2,.int .i64 0,.int .i64 107,.int .i64 k5])
 have HC:=A4 (Fs (h.ext hx).ses.dat.here.tr (by omega))
 have d0:=(h.ext hx).ses.blk.cell 0;have H:=A4 h;clear h;go_enter Tryz.func34,Tryz.ntmps34
 go_upto_region 1 with fail
 first
  |(
   guard_hyp N1
   generalize w.alloc (.cells #[.int .i64 k1,.int .i64 k2,.int .i64 0,.int .i64 106,.int .i64 k5] 87)=Wa at *)
  |(
   guard_hyp N2
   generalize w.alloc (.cells #[.int .i64 k1,.int .i64 k2,.int .i64 0,.int .i64 71,.int .i64 k5] 87)=Wa at *)
  |(
   guard_hyp N3
   generalize w.alloc (.cells #[.int .i64 k1,.int .i64 k2,.int .i64 0,.int .i64 110,.int .i64 k5] 87)=Wa at *)
  |(
   guard_hyp N4
   generalize w.alloc (.cells #[.int .i64 k1,.int .i64 k2,.int .i64 0,.int .i64 78,.int .i64 k5] 87)=Wa at *)
  |(
   generalize w.alloc (.cells #[.int .i64 k1,.int .i64 k2,.int .i64 0,.int .i64 107,.int .i64 k5] 87)=Wa at *)
 have d0':Wa.cell? ⟨p,0,none⟩=some (.pointer v.tr):=d0;clear d0;go_wp2_with fail
 refine HC.out.mono ?_
 rintro e w1 ⟨_,rfl,⟨A,k,rfl,hA⟩,he⟩;have hx1:=hx.trans he;have hc1:=hc.ext he;have g0:w1.cell? ⟨w.heap.size,0,none⟩=some (.int .i64 k1):=hc1.cell 0;have g2:w1.cell? ⟨w.heap.size,2,none⟩=some (.int .i64 0):=hc1.cell 2
 first
  |(
   guard_hyp N1
   have g3:w1.cell? ⟨w.heap.size,3,none⟩=some (.int .i64 106):=hc1.cell 3)
  |(
   guard_hyp N2
   have g3:w1.cell? ⟨w.heap.size,3,none⟩=some (.int .i64 71):=hc1.cell 3)
  |(
   guard_hyp N3
   have g3:w1.cell? ⟨w.heap.size,3,none⟩=some (.int .i64 110):=hc1.cell 3)
  |(
   guard_hyp N4
   have g3:w1.cell? ⟨w.heap.size,3,none⟩=some (.int .i64 78):=hc1.cell 3)
  |(
   have g3:w1.cell? ⟨w.heap.size,3,none⟩=some (.int .i64 107):=hc1.cell 3)
 clear hx hc d0' he HC
 first
  |(
   guard_hyp N1
   go_upto_region 15 with fail
   have HUp:Hid (∀wq,Al w1 wq→Calls Tryz.prog 59 #[.agg (Jz v s.hi),.slice A s.tx.length k,.int .i64 k1] wq fun e w'=>∃u,e=.returned u∧(∃U L m z x,u=.tuple #[U,.slice L m z,.int .i64 x]∧
    Calls Tryz.prog 43 #[.pointer (some ⟨p,0,none⟩),U,.slice L m z,.int .i64 x] w' fun e' w''=>e'=.returned (.tuple #[])∧Br p w col (Pr s k1) w'')):=A4 fun wq he=>by
    have hm:=H.out.ext (hx1.trans he);refine(sL hm.ses.dat.here.his.v ((Av.ints hA).ext he) (Ay.nocap' hA)).mono ?_
    rintro e w' ⟨he',hg⟩;obtain⟨U,L,m,z,x,rfl,hc⟩:=Li hm he' hq (fun _=>hlen) (hg.imp (fun⟨h1,u,L,m,z,h2,h3,h4,_⟩=>⟨h1,u,L,m,z,h2,h3,h4⟩) id)
    refine⟨_,rfl,U,L,m,z,x,rfl,hc.mono fun e w'' ⟨h1,h2⟩=>⟨h1,?_⟩⟩
    refine Br.trans ⟨(hx1.trans he).alt _,fun _ _ h=>h,fun _ _ h=>h⟩ ?_
    unfold Pr;by_cases hgd:Ko s.hi s.tx k1∧(Gc k1:Int)+s.hi.at_≤(s.hi.lines.length:Int)
    ·rw[if_pos hgd]at h2 ⊢;exact h2
    ·rw[if_neg hgd]at h2 ⊢;exact h2)
  |(
   guard_hyp N2
   go_upto_region 17 with fail
   have HUp:Hid (∀wq,Al w1 wq→Calls Tryz.prog 60 #[.agg (Jz v s.hi),.slice A s.tx.length k,.int .i64 k1] wq fun e w'=>∃u,e=.returned u∧(∃U L m z x,u=.tuple #[U,.slice L m z,.int .i64 x]∧
    Calls Tryz.prog 43 #[.pointer (some ⟨p,0,none⟩),U,.slice L m z,.int .i64 x] w' fun e' w''=>e'=.returned (.tuple #[])∧Br p w col (Po s k1) w'')):=A4 fun wq he=>by
    have hm:=H.out.ext (hx1.trans he);refine(rQ hm.ses.dat.here.his.v ((Av.ints hA).ext he) (Ay.nocap' hA)).mono ?_
    rintro e w' ⟨he',hg⟩;obtain⟨U,L,m,z,x,rfl,hc⟩:=Li hm he' hq (fun _=>hlen) (hg.imp (fun⟨h1,u,L,m,z,h2,h3,h4,_⟩=>⟨h1,u,L,m,z,h2,h3,h4⟩) id)
    refine⟨_,rfl,U,L,m,z,x,rfl,hc.mono fun e w'' ⟨h1,h2⟩=>⟨h1,?_⟩⟩
    refine Br.trans ⟨(hx1.trans he).alt _,fun _ _ h=>h,fun _ _ h=>h⟩ ?_
    unfold Po;by_cases hgd:Ko s.hi s.tx k1∧k1≤(s.hi.lines.length:Int)∧0<s.hi.lines.length
    ·rw[if_pos hgd]at h2 ⊢;exact h2
    ·rw[if_neg hgd]at h2 ⊢;exact h2)
  |(
   guard_hyp N3
   go_upto_region 20 with fail
   have HUp:Hid (∀wq,Al w1 wq→Calls Tryz.prog 61 #[.agg (Jz v s.hi),.slice A s.tx.length k,.bool false] wq fun e w'=>∃u,e=.returned u∧(∃U L m z x,u=.tuple #[U,.slice L m z,.int .i64 x]∧
    Calls Tryz.prog 43 #[.pointer (some ⟨p,0,none⟩),U,.slice L m z,.int .i64 x] w' fun e' w''=>e'=.returned (.tuple #[])∧Br p w col (Fy s [] (s.hi.older !=false) s.hi.older) w'')):=A4 fun wq he=>by
    have hm:=H.out.ext (hx1.trans he);refine(Zm hm.ses.dat.here.his.v ((Av.ints hA).ext he) (Ay.nocap' hA)).mono ?_
    rintro e w' ⟨he',hg⟩;obtain⟨U,L,m,z,x,rfl,hc⟩:=Pc hm he' hq hlen (hg.imp (fun⟨k,h1,h2,u,L,m,z,h3,h4,h5,_⟩=>⟨k,h1,h2,u,L,m,z,h3,h4,h5⟩) id)
    exact⟨_,rfl,U,L,m,z,x,rfl,hc.mono fun e w'' ⟨h1,h2⟩=>⟨h1,Br.trans ⟨(hx1.trans he).alt _,fun _ _ h=>h,fun _ _ h=>h⟩ h2⟩⟩)
  |(
   guard_hyp N4
   go_upto_region 20 with fail
   have HUp:Hid (∀wq,Al w1 wq→Calls Tryz.prog 61 #[.agg (Jz v s.hi),.slice A s.tx.length k,.bool true] wq fun e w'=>∃u,e=.returned u∧(∃U L m z x,u=.tuple #[U,.slice L m z,.int .i64 x]∧
    Calls Tryz.prog 43 #[.pointer (some ⟨p,0,none⟩),U,.slice L m z,.int .i64 x] w' fun e' w''=>e'=.returned (.tuple #[])∧Br p w col (Fy s [] (s.hi.older !=true) s.hi.older) w'')):=A4 fun wq he=>by
    have hm:=H.out.ext (hx1.trans he);refine(Zm hm.ses.dat.here.his.v ((Av.ints hA).ext he) (Ay.nocap' hA)).mono ?_
    rintro e w' ⟨he',hg⟩;obtain⟨U,L,m,z,x,rfl,hc⟩:=Pc hm he' hq hlen (hg.imp (fun⟨k,h1,h2,u,L,m,z,h3,h4,h5,_⟩=>⟨k,h1,h2,u,L,m,z,h3,h4,h5⟩) id)
    exact⟨_,rfl,U,L,m,z,x,rfl,hc.mono fun e w'' ⟨h1,h2⟩=>⟨h1,Br.trans ⟨(hx1.trans he).alt _,fun _ _ h=>h,fun _ _ h=>h⟩ h2⟩⟩)
  |(
   go_upto_region 13 with fail
   have HUp:Hid (∀wq,Al w1 wq→Calls Tryz.prog 58 #[.agg (Jz v s.hi),.slice A s.tx.length k,.int .i64 k1] wq fun e w'=>∃u,e=.returned u∧(∃U L m z x,u=.tuple #[U,.slice L m z,.int .i64 x]∧
    Calls Tryz.prog 43 #[.pointer (some ⟨p,0,none⟩),U,.slice L m z,.int .i64 x] w' fun e' w''=>e'=.returned (.tuple #[])∧Br p w col (pN s k1) w'')):=A4 fun wq he=>by
    have hm:=H.out.ext (hx1.trans he);refine(xC hm.ses.dat.here.his.v ((Av.ints hA).ext he) (Ay.nocap' hA)).mono ?_
    rintro e w' ⟨he',hg⟩;obtain⟨U,L,m,z,x,rfl,hc⟩:=Li hm he' hq (fun _=>hlen) (hg.imp (fun⟨h1,u,L,m,z,h2,h3,h4,_⟩=>⟨h1,u,L,m,z,h2,h3,h4⟩) id)
    refine⟨_,rfl,U,L,m,z,x,rfl,hc.mono fun e w'' ⟨h1,h2⟩=>⟨h1,?_⟩⟩
    refine Br.trans ⟨(hx1.trans he).alt _,fun _ _ h=>h,fun _ _ h=>h⟩ ?_
    unfold pN;by_cases hgd:Ko s.hi s.tx k1∧(Gc k1:Int)≤s.hi.at_
    ·rw[if_pos hgd]at h2 ⊢;exact h2
    ·rw[if_neg hgd]at h2 ⊢;exact h2)
 have hb1:=H.out.ses.blk.ext (hx1.to_drew)
 first
  |(
   guard_hyp N1
   have hcd:An w1.drew w.heap.size 87 #[.int .i64 k1,.int .i64 k2,.int .i64 0,.int .i64 106,.int .i64 k5]:=hc1)
  |(
   guard_hyp N2
   have hcd:An w1.drew w.heap.size 87 #[.int .i64 k1,.int .i64 k2,.int .i64 0,.int .i64 71,.int .i64 k5]:=hc1)
  |(
   guard_hyp N3
   have hcd:An w1.drew w.heap.size 87 #[.int .i64 k1,.int .i64 k2,.int .i64 0,.int .i64 110,.int .i64 k5]:=hc1)
  |(
   guard_hyp N4
   have hcd:An w1.drew w.heap.size 87 #[.int .i64 k1,.int .i64 k2,.int .i64 0,.int .i64 78,.int .i64 k5]:=hc1)
  |(
   have hcd:An w1.drew w.heap.size 87 #[.int .i64 k1,.int .i64 k2,.int .i64 0,.int .i64 107,.int .i64 k5]:=hc1)
 have hE1:=Al.drew w1;refine wp_region_held_drew (S:=fun _=>True) (by kernel_rfl) trivial (fun hS=>?_)
 clear hx1 hc1 g0 g2 g3;generalize w1.drew=cur at*;refine B8 (i:=0) (v:=(.pointer (some ⟨p,0,none⟩))) rfl hS ?_
 refine B8 (i:=1) (v:=(.pointer (some ⟨p,0,none⟩))) rfl hS ?_
 refine B8 (i:=2) (v:=(.pointer (some ⟨p,0,none⟩))) rfl hS ?_
 refine B8 (i:=3) (v:=(.pointer (some ⟨p,37,none⟩))) rfl hS ?_
 refine B8 (i:=5) (v:=(.slice A s.tx.length k)) rfl hS ?_
 first
  |(
   (first|guard_hyp N3|guard_hyp N4)
   refine B8 (i:=6) (v:=(.pointer (some ⟨w.heap.size,3,none⟩))) rfl hS ?_
   have g3:=hcd.cell 3)
  |(
   refine B8 (i:=6) (v:=(.pointer (some ⟨w.heap.size,0,none⟩))) rfl hS ?_
   have g0:cur.cell? ⟨w.heap.size,0,none⟩=some (.int .i64 k1):=hcd.cell 0)
 have d37:cur.cell? ⟨p,37,none⟩=some v.h0:=hb1.cell 37;have d38:cur.cell? ⟨p,38,none⟩=some (.int .i64 s.hi.most):=hb1.cell 38;have d39:cur.cell? ⟨p,39,none⟩=some (.int .i64 s.hi.at_):=hb1.cell 39;have d40:cur.cell? ⟨p,40,none⟩=some v.h3:=hb1.cell 40;have d41:cur.cell? ⟨p,41,none⟩=some v.h4:=hb1.cell 41;have d42:cur.cell? ⟨p,42,none⟩=some (.bool s.hi.older):=hb1.cell 42;refine wpAnyH_ready (rs:=[4,7]) (by decide +kernel) (by simp) (AllReadyH.cons rfl (fun K hK=>?_) (AllReadyH.cons rfl (fun K hK=>?_) AllReadyH.nil))
 ·go_simp
  refine hK.out _ _ trivial (fun _=>?_)
  clear hK K
  try simp only[List.getElem_toArray,List.getElem_cons_zero,List.getElem_cons_succ,Act.put,List.setIfInBounds_toArray,List.set_cons_zero,List.set_cons_succ]
  refine wpAnyH_ready (rs:=[7]) (by decide +kernel) (by simp) (AllReadyH.cons rfl (fun K hK=>?_) AllReadyH.nil)
  go_simp
  refine hK.out _ _ trivial (fun _=>?_)
  clear hK K
  try simp only[List.getElem_toArray,List.getElem_cons_zero,List.getElem_cons_succ,Act.put,List.setIfInBounds_toArray,List.set_cons_zero,List.set_cons_succ]
  first
   |(
    guard_hyp N1
    refine wpAnyH_ready (rs:=[8]) (by decide +kernel) (by simp) (AllReadyH.cons rfl (fun K hK=>?_) AllReadyH.nil)
    refine C6 rfl 59 #[.agg (Jz v s.hi),.slice A s.tx.length k,.int .i64 k1] rfl (by kernel_rfl) _ (HUp.out cur hE1) ?_)
   |(
    guard_hyp N2
    refine wpAnyH_ready (rs:=[8]) (by decide +kernel) (by simp) (AllReadyH.cons rfl (fun K hK=>?_) AllReadyH.nil)
    refine C6 rfl 60 #[.agg (Jz v s.hi),.slice A s.tx.length k,.int .i64 k1] rfl (by kernel_rfl) _ (HUp.out cur hE1) ?_)
   |(
    guard_hyp N3
    refine B8 (i:=8) (v:=(.bool false)) rfl hS ?_
    refine wpAnyH_ready (rs:=[9]) (by decide +kernel) (by simp) (AllReadyH.cons rfl (fun K hK=>?_) AllReadyH.nil)
    refine C6 rfl 61 #[.agg (Jz v s.hi),.slice A s.tx.length k,.bool false] rfl (by kernel_rfl) _ (HUp.out cur hE1) ?_)
   |(
    guard_hyp N4
    refine B8 (i:=8) (v:=(.bool true)) rfl hS ?_
    refine wpAnyH_ready (rs:=[9]) (by decide +kernel) (by simp) (AllReadyH.cons rfl (fun K hK=>?_) AllReadyH.nil)
    refine C6 rfl 61 #[.agg (Jz v s.hi),.slice A s.tx.length k,.bool true] rfl (by kernel_rfl) _ (HUp.out cur hE1) ?_)
   |(
    refine wpAnyH_ready (rs:=[8]) (by decide +kernel) (by simp) (AllReadyH.cons rfl (fun K hK=>?_) AllReadyH.nil)
    refine J9 rfl 58 #[.agg (Jz v s.hi),.slice A s.tx.length k,.int .i64 k1] rfl (by kernel_rfl) _ (HUp.out cur hE1) ?_)
  rintro u w2 ⟨U,L,m,z,x,rfl,hmv⟩;refine hK.out _ _ trivial (fun _=>?_)
  clear hK K
  try simp only[List.getElem_toArray,List.getElem_cons_zero,List.getElem_cons_succ,Act.put,List.setIfInBounds_toArray,List.set_cons_zero,List.set_cons_succ]
  first
   |(
    guard_hyp N1
    refine B8 (i:=9) (v:=U) rfl hS ?_
    refine B8 (i:=10) (v:=(.slice L m z)) rfl hS ?_
    refine B8 (i:=11) (v:=(.int .i64 x)) rfl hS ?_
    refine wpAnyH_ready (rs:=[12]) (by decide +kernel) (by simp) (AllReadyH.cons rfl (fun K hK=>?_) AllReadyH.nil)
    refine C6 rfl 43 #[.pointer (some ⟨p,0,none⟩),U,.slice L m z,.int .i64 x] rfl (by kernel_rfl) (fun u w'=>u=.tuple #[]∧Br p w col (Pr s k1) w') (hmv.mono fun e w' ⟨h1,h2⟩=>⟨_,h1,rfl,h2⟩) ?_)
   |(
    guard_hyp N2
    refine B8 (i:=9) (v:=U) rfl hS ?_
    refine B8 (i:=10) (v:=(.slice L m z)) rfl hS ?_
    refine B8 (i:=11) (v:=(.int .i64 x)) rfl hS ?_
    refine wpAnyH_ready (rs:=[12]) (by decide +kernel) (by simp) (AllReadyH.cons rfl (fun K hK=>?_) AllReadyH.nil)
    refine C6 rfl 43 #[.pointer (some ⟨p,0,none⟩),U,.slice L m z,.int .i64 x] rfl (by kernel_rfl) (fun u w'=>u=.tuple #[]∧Br p w col (Po s k1) w') (hmv.mono fun e w' ⟨h1,h2⟩=>⟨_,h1,rfl,h2⟩) ?_)
   |(
    guard_hyp N3
    refine B8 (i:=10) (v:=U) rfl hS ?_
    refine B8 (i:=11) (v:=(.slice L m z)) rfl hS ?_
    refine B8 (i:=12) (v:=(.int .i64 x)) rfl hS ?_
    refine wpAnyH_ready (rs:=[13]) (by decide +kernel) (by simp) (AllReadyH.cons rfl (fun K hK=>?_) AllReadyH.nil)
    refine C6 rfl 43 #[.pointer (some ⟨p,0,none⟩),U,.slice L m z,.int .i64 x] rfl (by kernel_rfl) (fun u w'=>u=.tuple #[]∧Br p w col (Fy s [] (s.hi.older !=false) s.hi.older) w') (hmv.mono fun e w' ⟨h1,h2⟩=>⟨_,h1,rfl,h2⟩) ?_)
   |(
    guard_hyp N4
    refine B8 (i:=10) (v:=U) rfl hS ?_
    refine B8 (i:=11) (v:=(.slice L m z)) rfl hS ?_
    refine B8 (i:=12) (v:=(.int .i64 x)) rfl hS ?_
    refine wpAnyH_ready (rs:=[13]) (by decide +kernel) (by simp) (AllReadyH.cons rfl (fun K hK=>?_) AllReadyH.nil)
    refine C6 rfl 43 #[.pointer (some ⟨p,0,none⟩),U,.slice L m z,.int .i64 x] rfl (by kernel_rfl) (fun u w'=>u=.tuple #[]∧Br p w col (Fy s [] (s.hi.older !=true) s.hi.older) w') (hmv.mono fun e w' ⟨h1,h2⟩=>⟨_,h1,rfl,h2⟩) ?_)
   |(
    refine B8 (i:=9) (v:=U) rfl hS ?_
    refine B8 (i:=10) (v:=(.slice L m z)) rfl hS ?_
    refine B8 (i:=11) (v:=(.int .i64 x)) rfl hS ?_
    refine wpAnyH_ready (rs:=[12]) (by decide +kernel) (by simp) (AllReadyH.cons rfl (fun K hK=>?_) AllReadyH.nil)
    refine J9 rfl 43 #[.pointer (some ⟨p,0,none⟩),U,.slice L m z,.int .i64 x] rfl (by kernel_rfl) (fun u w'=>u=.tuple #[]∧Br p w col (pN s k1) w') (hmv.mono fun e w' ⟨h1,h2⟩=>⟨_,h1,rfl,h2⟩) ?_)
  rintro u w3 ⟨rfl,hfin⟩;have HFin:=A4 hfin;clear hfin hmv;refine hK.out _ _ trivial (fun _=>?_)
  clear hK K;refine wpAnyH_done (by kernel_rfl) ?_ _
  go_wp2_with fail
  go_end0
  exact⟨rfl,HFin.out⟩
 ·go_simp
  refine hK.out _ _ trivial (fun _=>?_)
  clear hK K
  try simp only[List.getElem_toArray,List.getElem_cons_zero,List.getElem_cons_succ,Act.put,List.setIfInBounds_toArray,List.set_cons_zero,List.set_cons_succ]
  first
   |(
    guard_hyp N3
    refine B8 (i:=8) (v:=(.bool false)) rfl hS ?_)
   |(
    guard_hyp N4
    refine B8 (i:=8) (v:=(.bool true)) rfl hS ?_)
   |skip
  refine wpAnyH_ready (rs:=[4]) (by decide +kernel) (by simp) (AllReadyH.cons rfl (fun K hK=>?_) AllReadyH.nil)
  go_simp
  refine hK.out _ _ trivial (fun _=>?_)
  clear hK K
  try simp only[List.getElem_toArray,List.getElem_cons_zero,List.getElem_cons_succ,Act.put,List.setIfInBounds_toArray,List.set_cons_zero,List.set_cons_succ]
  first
   |(
    guard_hyp N1
    refine wpAnyH_ready (rs:=[8]) (by decide +kernel) (by simp) (AllReadyH.cons rfl (fun K hK=>?_) AllReadyH.nil)
    refine C6 rfl 59 #[.agg (Jz v s.hi),.slice A s.tx.length k,.int .i64 k1] rfl (by kernel_rfl) _ (HUp.out cur hE1) ?_)
   |(
    guard_hyp N2
    refine wpAnyH_ready (rs:=[8]) (by decide +kernel) (by simp) (AllReadyH.cons rfl (fun K hK=>?_) AllReadyH.nil)
    refine C6 rfl 60 #[.agg (Jz v s.hi),.slice A s.tx.length k,.int .i64 k1] rfl (by kernel_rfl) _ (HUp.out cur hE1) ?_)
   |(
    guard_hyp N3
    refine wpAnyH_ready (rs:=[9]) (by decide +kernel) (by simp) (AllReadyH.cons rfl (fun K hK=>?_) AllReadyH.nil)
    refine C6 rfl 61 #[.agg (Jz v s.hi),.slice A s.tx.length k,.bool false] rfl (by kernel_rfl) _ (HUp.out cur hE1) ?_)
   |(
    guard_hyp N4
    refine wpAnyH_ready (rs:=[9]) (by decide +kernel) (by simp) (AllReadyH.cons rfl (fun K hK=>?_) AllReadyH.nil)
    refine C6 rfl 61 #[.agg (Jz v s.hi),.slice A s.tx.length k,.bool true] rfl (by kernel_rfl) _ (HUp.out cur hE1) ?_)
   |(
    refine wpAnyH_ready (rs:=[8]) (by decide +kernel) (by simp) (AllReadyH.cons rfl (fun K hK=>?_) AllReadyH.nil)
    refine J9 rfl 58 #[.agg (Jz v s.hi),.slice A s.tx.length k,.int .i64 k1] rfl (by kernel_rfl) _ (HUp.out cur hE1) ?_)
  rintro u w2 ⟨U,L,m,z,x,rfl,hmv⟩;refine hK.out _ _ trivial (fun _=>?_)
  clear hK K
  try simp only[List.getElem_toArray,List.getElem_cons_zero,List.getElem_cons_succ,Act.put,List.setIfInBounds_toArray,List.set_cons_zero,List.set_cons_succ]
  first
   |(
    guard_hyp N1
    refine B8 (i:=9) (v:=U) rfl hS ?_
    refine B8 (i:=10) (v:=(.slice L m z)) rfl hS ?_
    refine B8 (i:=11) (v:=(.int .i64 x)) rfl hS ?_
    refine wpAnyH_ready (rs:=[12]) (by decide +kernel) (by simp) (AllReadyH.cons rfl (fun K hK=>?_) AllReadyH.nil)
    refine C6 rfl 43 #[.pointer (some ⟨p,0,none⟩),U,.slice L m z,.int .i64 x] rfl (by kernel_rfl) (fun u w'=>u=.tuple #[]∧Br p w col (Pr s k1) w') (hmv.mono fun e w' ⟨h1,h2⟩=>⟨_,h1,rfl,h2⟩) ?_)
   |(
    guard_hyp N2
    refine B8 (i:=9) (v:=U) rfl hS ?_
    refine B8 (i:=10) (v:=(.slice L m z)) rfl hS ?_
    refine B8 (i:=11) (v:=(.int .i64 x)) rfl hS ?_
    refine wpAnyH_ready (rs:=[12]) (by decide +kernel) (by simp) (AllReadyH.cons rfl (fun K hK=>?_) AllReadyH.nil)
    refine C6 rfl 43 #[.pointer (some ⟨p,0,none⟩),U,.slice L m z,.int .i64 x] rfl (by kernel_rfl) (fun u w'=>u=.tuple #[]∧Br p w col (Po s k1) w') (hmv.mono fun e w' ⟨h1,h2⟩=>⟨_,h1,rfl,h2⟩) ?_)
   |(
    guard_hyp N3
    refine B8 (i:=10) (v:=U) rfl hS ?_
    refine B8 (i:=11) (v:=(.slice L m z)) rfl hS ?_
    refine B8 (i:=12) (v:=(.int .i64 x)) rfl hS ?_
    refine wpAnyH_ready (rs:=[13]) (by decide +kernel) (by simp) (AllReadyH.cons rfl (fun K hK=>?_) AllReadyH.nil)
    refine C6 rfl 43 #[.pointer (some ⟨p,0,none⟩),U,.slice L m z,.int .i64 x] rfl (by kernel_rfl) (fun u w'=>u=.tuple #[]∧Br p w col (Fy s [] (s.hi.older !=false) s.hi.older) w') (hmv.mono fun e w' ⟨h1,h2⟩=>⟨_,h1,rfl,h2⟩) ?_)
   |(
    guard_hyp N4
    refine B8 (i:=10) (v:=U) rfl hS ?_
    refine B8 (i:=11) (v:=(.slice L m z)) rfl hS ?_
    refine B8 (i:=12) (v:=(.int .i64 x)) rfl hS ?_
    refine wpAnyH_ready (rs:=[13]) (by decide +kernel) (by simp) (AllReadyH.cons rfl (fun K hK=>?_) AllReadyH.nil)
    refine C6 rfl 43 #[.pointer (some ⟨p,0,none⟩),U,.slice L m z,.int .i64 x] rfl (by kernel_rfl) (fun u w'=>u=.tuple #[]∧Br p w col (Fy s [] (s.hi.older !=true) s.hi.older) w') (hmv.mono fun e w' ⟨h1,h2⟩=>⟨_,h1,rfl,h2⟩) ?_)
   |(
    refine B8 (i:=9) (v:=U) rfl hS ?_
    refine B8 (i:=10) (v:=(.slice L m z)) rfl hS ?_
    refine B8 (i:=11) (v:=(.int .i64 x)) rfl hS ?_
    refine wpAnyH_ready (rs:=[12]) (by decide +kernel) (by simp) (AllReadyH.cons rfl (fun K hK=>?_) AllReadyH.nil)
    refine J9 rfl 43 #[.pointer (some ⟨p,0,none⟩),U,.slice L m z,.int .i64 x] rfl (by kernel_rfl) (fun u w'=>u=.tuple #[]∧Br p w col (pN s k1) w') (hmv.mono fun e w' ⟨h1,h2⟩=>⟨_,h1,rfl,h2⟩) ?_)
  rintro u w3 ⟨rfl,hfin⟩;have HFin:=A4 hfin;clear hfin hmv;refine hK.out _ _ trivial (fun _=>?_)
  clear hK K;refine wpAnyH_done (by kernel_rfl) ?_ _
  go_wp2_with fail
  go_end0
  exact⟨rfl,HFin.out⟩):p:=h
theorem zU (h:p:=by
 have hnc:=hl.ncap;have hcm:=hl.nmax;have hlen:=A4 hl.len;unfold maxLen at hcm;have HP:=A4 (U9 (hl.ext (Al.alloc w (.cells #[.int .i64 0,.int .i64 0] 213))) wl hn);clear wl;go_enter Tryz.func138,Tryz.ntmps138
 go_wp2_with fail
 refine HP.out.mono ?_
 rintro e w1 ⟨B,rfl,hB,he1⟩;have hb0:=(An.new w 213 #[.int .i64 0,.int .i64 0]).ext he1;have he:=(Al.alloc w (.cells #[.int .i64 0,.int .i64 0] 213)).trans he1;have hl1:=hl.ext he;clear HP he1 hl;have HF:Hid (∀q:Nat,q<n→(k:Int)≤gI (D6 l) q→∃b:Nat,gI (D6 l) q=b∧b<l.length):=A4 (fun q hq h=>by
  rcases Mt (l:=l) (i:=q) (by rw[hlen.out];exact hq)with h1|⟨b,h1,h2,_⟩
  ·omega
  ·exact⟨b,h1,h2⟩)
 rcases Nat.eq_zero_or_pos n with hn0|hn0
 ·subst hn0
  obtain rfl:k=0:=by omega
  go_wp2_with fail
  go_loopw [12] (fun i wr=>∃m:Nat,m≤0∧i=.int .i64 ((m:Int)-1)∧wr=w1) (fun i _=>(intOf i+1).toNat)
  case atStart=>
   exact⟨0,by omega,by rfl,rfl⟩
  case round=>
   obtain⟨m,hm1,rfl,rfl⟩:=hrel;obtain rfl:m=0:=by omega
   have f0:=hb0.frozen 0;have f1:=hb0.frozen 1;have c4:=hb0.cell 0;have c5:=hb0.cell 1;simp only[List.getElem?_toArray,List.getElem?_cons_zero,List.getElem?_cons_succ]at c4 c5;go_wp2_with fail
   have hbf:An ((wr.setCell ⟨w.heap.size,0,none⟩ (.int .i64 0)).setCell ⟨w.heap.size,1,none⟩ (.int .i64 0)) w.heap.size 213 #[.int .i64 0,.int .i64 0]:=by
    exact I140
   have c6:=hbf.cell 0;have c7:=hbf.cell 1;simp only[List.getElem?_toArray,List.getElem?_cons_zero,List.getElem?_cons_succ]at c6 c7;clear c4 c5 f0 f1;refine bodyPost_ret (by simp[results,Tryz.results138,go_sem,c6,c7];try rfl) rfl ?_
   exact⟨.inr ⟨fun j h1 h2=>absurd h2 (by rw[hlen.out];omega),rfl⟩,(he.setCell (by simp) _).setCell (by simp) _⟩
 first
  |(
   guard_hyp N1
   ·have hkn:(k:Int)≤n-1:=by omega
    go_wp2_with fail
    go_loopw [12] (fun i wr=>∃m:Nat,m≤k+1∧m≤n∧i=.int .i64 ((m:Int)-1)∧Hid (∀j,m≤j→j≤k→j<l.length→gI l j=o→gI (D6 l) j<k)∧wr=w1) (fun i _=>(intOf i+1).toNat)
    case atStart=>
     exact I94
    case round=>
     obtain⟨m,hm1,hm2,rfl,hall,rfl⟩:=hrel;rcases Nat.eq_zero_or_pos m with h0|h0
     ·exact I9
     ·obtain⟨q,rfl⟩:∃q,m=q+1:=⟨m-1,by omega⟩
      rw[show(((q+1:Nat):Int)-1)=(q:Int)by omega]
      have hq:q<n:=by omega
      obtain⟨a1,rfl,hc1⟩:=hl1.at_ hq;obtain⟨a2,rfl,hc2⟩:=hB.at_ hq;have d1:=hc1 q hq;have d2:=hc2 q hq;clear hc1 hc2;have hnx:Hid ((gI l q=o→gI (D6 l) q<k)→∀j,q≤j→j≤k→j<l.length→gI l j=o→gI (D6 l) j<k):=A4 (fun hh j h1 h2 h3 h4=>by
       rcases Nat.lt_or_ge q j with h5|h5
       ·exact hall.out j (by omega) h2 h3 h4
       ·obtain rfl:j=q:=by omega
        exact hh h4)
      by_cases heq:gI l q=o
      ·have b1:(gI l q==o)=true:=by simpa using heq
       have HQ:=A4 heq;clear heq;by_cases hge:(k:Int)≤gI (D6 l) q
       ·obtain⟨b,hb1,hb2⟩:=HF.out q hq hge
        have HB:=A4 hb1;rw[hb1]at d2 hge;clear hb1;have f0:=hb0.frozen 0;have f1:=hb0.frozen 1;have c4:=hb0.cell 0;have c5:=hb0.cell 1;simp only[List.getElem?_toArray,List.getElem?_cons_zero,List.getElem?_cons_succ]at c4 c5;go_wp2_with fail
        have hbf:An ((wr.setCell ⟨w.heap.size,0,none⟩ (.int .i64 ((q:Int)+1))).setCell ⟨w.heap.size,1,none⟩ (.int .i64 b)) w.heap.size 213 #[.int .i64 ((q:Int)+1),.int .i64 b]:=by
         simpa using(hb0.set_ 0 (.int .i64 ((q:Int)+1))).set_ 1 (.int .i64 b)
        exact I15
       ·exact I45
      ·have b1:(gI l q==o)=false:=by simpa using heq
       have HQ:=A4 heq;clear heq;go_wp2_with fail
       exact⟨⟨q,by omega,by omega,by go_num,hnx.out (fun h=>absurd h HQ.out),trivial⟩,by simp[intOf]<;>omega⟩)
  |(
   ·have hkn:(k:Int)≤n-1:=by omega
    go_wp2_with fail
    go_loopw [12] (fun i wr=>∃m:Nat,m≤k+1∧m≤n∧i=.int .i64 ((m:Int)-1)∧Hid (∀j,m≤j→j≤k→j<l.length→gI l j=o→gI (D6 l) j<k)∧wr=w1) (fun i _=>(intOf i+1).toNat)
    case atStart=>
     exact I94
    case round=>
     obtain⟨m,hm1,hm2,rfl,hall,rfl⟩:=hrel;rcases Nat.eq_zero_or_pos m with h0|h0
     ·exact I9
     ·obtain⟨q,rfl⟩:∃q,m=q+1:=⟨m-1,by omega⟩
      rw[show(((q+1:Nat):Int)-1)=(q:Int)by omega]
      have hq:q<n:=by omega
      obtain⟨a1,rfl,hc1⟩:=hl1.at_ hq;obtain⟨a2,rfl,hc2⟩:=hB.at_ hq;have d1:=hc1 q hq;have d2:=hc2 q hq;clear hc1 hc2;have hnx:Hid ((gI l q=o→gI (D6 l) q<k)→∀j,q≤j→j≤k→j<l.length→gI l j=o→gI (D6 l) j<k):=A4 (fun hh j h1 h2 h3 h4=>by
       rcases Nat.lt_or_ge q j with h5|h5
       ·exact hall.out j (by omega) h2 h3 h4
       ·obtain rfl:j=q:=by omega
        exact hh h4)
      by_cases heq:gI l q=o
      ·have b1:(gI l q==o)=true:=by simpa using heq
       have HQ:=A4 heq;clear heq;by_cases hge:(k:Int)≤gI (D6 l) q
       ·obtain⟨b,hb1,hb2⟩:=HF.out q hq hge
        have HB:=A4 hb1;have hbn:b<n:=by rw[←hlen.out];exact hb2
        rw[hb1]at d2 hge;clear hb1;have f0:=hb0.frozen 0;have f1:=hb0.frozen 1;have c4:=hb0.cell 0;have c5:=hb0.cell 1;simp only[List.getElem?_toArray,List.getElem?_cons_zero,List.getElem?_cons_succ]at c4 c5;go_wp2_with fail
        have hbf:An ((wr.setCell ⟨w.heap.size,0,none⟩ (.int .i64 (q:Int))).setCell ⟨w.heap.size,1,none⟩ (.int .i64 ((b:Int)+1))) w.heap.size 213 #[.int .i64 q,.int .i64 ((b:Int)+1)]:=by
         simpa using(hb0.set_ 0 (.int .i64 (q:Int))).set_ 1 (.int .i64 ((b:Int)+1))
        exact I15
       ·exact I45
      ·have b1:(gI l q==o)=false:=by simpa using heq
       have HQ:=A4 heq;clear heq;go_wp2_with fail
       exact⟨⟨q,by omega,by omega,by go_num,hnx.out (fun h=>absurd h HQ.out),trivial⟩,by simp[intOf]<;>omega⟩)):p:=h
theorem pM (h:p:=by
 obtain⟨h0,h1,hrs,h29,h30,h31,h32,h33⟩:=h.cells;have hb:=h.blk;have X0:Hid (∀wx,Al w wx→wx.cell? ⟨g,0,none⟩=some (.slice A n c)):=A4 fun wx he=>he.cell ((hb.cell 0).trans h0)
 have X1:Hid (∀wx,Al w wx→wx.cell? ⟨g,1,none⟩=some (.int .i64 (a:Int))):=A4 fun wx he=>he.cell ((hb.cell 1).trans h1)
 have Y0:Hid (∀wx,Al w wx→wx.cell? ⟨g,29,none⟩=some (.int .i64 k1)):=A4 fun wx he=>he.cell ((hb.cell 29).trans h29)
 first
  |(
   guard_hyp N1
   have Y3:Hid (∀wx,Al w wx→wx.cell? ⟨g,32,none⟩=some (.int .i64 80)):=A4 fun wx he=>he.cell ((hb.cell 32).trans h32))
  |(
   guard_hyp N2
   have Y3:Hid (∀wx,Al w wx→wx.cell? ⟨g,32,none⟩=some (.int .i64 126)):=A4 fun wx he=>he.cell ((hb.cell 32).trans h32))
  |(
   guard_hyp N3
   have Y3:Hid (∀wx,Al w wx→wx.cell? ⟨g,32,none⟩=some (.int .i64 114)):=A4 fun wx he=>he.cell ((hb.cell 32).trans h32))
  |(
   guard_hyp N4
   have Y3:Hid (∀wx,Al w wx→wx.cell? ⟨g,32,none⟩=some (.int .i64 105)):=A4 fun wx he=>he.cell ((hb.cell 32).trans h32))
  |(
   guard_hyp N5
   have Y3:Hid (∀wx,Al w wx→wx.cell? ⟨g,32,none⟩=some (.int .i64 82)):=A4 fun wx he=>he.cell ((hb.cell 32).trans h32))
  |(
   guard_hyp N6
   have Y3:Hid (∀wx,Al w wx→wx.cell? ⟨g,32,none⟩=some (.int .i64 65)):=A4 fun wx he=>he.cell ((hb.cell 32).trans h32))
  |(
   guard_hyp N7
   have Y3:Hid (∀wx,Al w wx→wx.cell? ⟨g,32,none⟩=some (.int .i64 97)):=A4 fun wx he=>he.cell ((hb.cell 32).trans h32))
  |(
   guard_hyp N8
   have Y3:Hid (∀wx,Al w wx→wx.cell? ⟨g,32,none⟩=some (.int .i64 73)):=A4 fun wx he=>he.cell ((hb.cell 32).trans h32))
  |(
   guard_hyp N9
   have Y3:Hid (∀wx,Al w wx→wx.cell? ⟨g,32,none⟩=some (.int .i64 k4)):=A4 fun wx he=>he.cell ((hb.cell 32).trans h32))
  |(
   have Y3:Hid (∀wx,Al w wx→wx.cell? ⟨g,32,none⟩=some (.int .i64 112)):=A4 fun wx he=>he.cell ((hb.cell 32).trans h32))
 have HC0:=A4 h0;have HC1:=A4 h1;have HC33:=A4 h33;have HI:=A4 h;have hgw:=hb.lt;have hn:=h.len;have ha:=h.place;have hk:=h.cnt.1;have hk2:=h.cnt.2;obtain⟨N,hN⟩:∃N:Nat,Kz k1=N:=⟨_,rfl⟩;have hmx:max 1 k1=(N:Int):=by unfold Kz at hN;omega
 have hN1:1≤N:=by unfold Kz at hN;omega
 have hN9:N≤999:=by unfold Kz at hN;omega
 have HN:=A4 hN;clear h h0 h1 hrs h29 h30 h31 h32 h33 hb hN
 first
  |(
   guard_hyp N9
   have q1:(k4==112)=false:=by simp;omega
   have q2:(k4==80)=false:=by simp;omega
   have q3:(k4==126)=false:=by simp;omega
   have q4:(k4==114)=false:=by simp;omega
   have q5:(k4==105)=false:=by simp;omega
   have q6:(k4==73)=false:=by simp;omega
   have q7:(k4==97)=false:=by simp;omega
   have q8:(k4==65)=false:=by simp;omega
   have q9:(k4==82)=false:=by simp;omega
   have HNo:=A4 hno;clear hno)
  |skip
 have hx1:=A4 (Al.alloc w (.cells #[.pointer (some ⟨g,0,none⟩)] 183));have hb1:=A4 (An.new w 183 #[.pointer (some ⟨g,0,none⟩)]);go_enter Tryz.func121,Tryz.ntmps121
 go_upto_region 1 with fail
 change Code.wp _ _ _ _ (w.alloc (.cells #[.pointer (some ⟨g,0,none⟩)] 183));generalize w.alloc (.cells #[.pointer (some ⟨g,0,none⟩)] 183)=w1 at*;have z0:w1.cell? ⟨w.heap.size,0,none⟩=some (.pointer (some ⟨g,0,none⟩)):=hb1.out.cell 0;have x0:=X0.out w1 hx1.out;have x1:=X1.out w1 hx1.out;have y0:=Y0.out w1 hx1.out;have y3:=Y3.out w1 hx1.out;go_quiet (fail)
 have hxq:=A4 (hx1.out.trans (Al.drewN w1 nq));have hbq:=A4 (An.drewN hb1.out nq);clear x0 x1 y0 y3 z0 hx1 hb1;generalize w1.drewN nq=w2 at*;have z0:w2.cell? ⟨w.heap.size,0,none⟩=some (.pointer (some ⟨g,0,none⟩)):=hbq.out.cell 0;have x1:=X1.out w2 hxq.out;have y3:=Y3.out w2 hxq.out;have HM2:=A4 (HI.out.mid.ext hxq.out)
 first
  |(
   guard_hyp N1
   have hPn:a≤n:=by omega
   have HP:=A4 (Z2 (p:=a) (HI.out.wext (hxq.out.trans (Al.drew w2))) hPn);go_upto_region 7 with fail
   go_region_law (first
    |(
     refine Bs rfl 130 #[.pointer (some ⟨g,0,none⟩),.int .i64 (a:Int)] rfl (by kernel_rfl) (fun v w'=>∃er,v=.int .i64 er∧Hid (Ch g w2.drew (Nb n rl k1 k2) (Ro g l n a rl k1 k2 fk fa) (.returned (.int .i64 er)) w')) (HP.out.mono fun e w' h=>by obtain⟨er,cs',h1,h2⟩:=h;exact⟨_,h1,er,rfl,A4 ⟨er,cs',rfl,h2⟩⟩) ?_
     rintro v w3 ⟨er,rfl,hD⟩))
   all_goals
    have HF:Hid (Ch g w (E7 n a rl k1 k2 80) (Dl g l n a rl k1 k2 80 k5 fk fa) (.returned (.int .i64 er)) w3):=A4 (hD.out.from (Ev (hxq.out.trans (Al.drew w2)) (some g)) (fun h=>h.1 (.inr rfl)) (fun cs' ⟨m,at_,e,h1,h2⟩=>⟨m,at_,0,e,h1,.inr (.inl ⟨rfl,h2,rfl⟩)⟩))
    clear hD HP z0 x1 y3;go_wp2_with fail
    go_ret
    exact HF.out)
  |(
   guard_hyp N2
   by_cases hn0:n=0
   ·subst hn0
    go_wp2_with fail
    go_ret
    exact HM2.out.fail (by decide) (fun h=>h.2.1 rfl rfl)
   have hnn:((n:Int)==0)=false:=by simp;omega
   obtain⟨k,hkk⟩:∃k:Nat,min N (n-a)=k:=⟨_,rfl⟩;have hmn:min (N:Int) ((n:Int)-(a:Int))=(k:Int):=by omega
   have hwr:IntKind.i64.wrap ((n:Int)-(a:Int))=(n:Int)-(a:Int):=IntWalk.i64_in _ (by omega)
   have hka:a+k≤n:=by omega
   have HK:=A4 hkk;clear hkk;have HCh:=A4 (jL (k:=k) HM2.out.blk HC0.out HC1.out (HI.out.mid.out.text.choose_spec.choose_spec.choose_spec.1) (HI.out.mid.out.edit.choose_spec.1) (HI.out.line.ext (HI.out.ext.trans hxq.out)) hn hka);go_wp2_with fail
   refine HCh.out.mono ?_
   rintro e w3 ⟨⟨u,rfl⟩,hput⟩;have zz:w3.cell? ⟨w.heap.size,0,none⟩=some (.pointer (some ⟨g,0,none⟩)):=(An.grown hbq.out hput.1 (fun e=>by injection e with e;omega)).cell 0
   obtain⟨cs3,e3,hm3,hmk⟩:=HM2.out.put hput;have C1:w3.cell? ⟨g,1,none⟩=some (.int .i64 (a:Int)):=hm3.cell (by omega) HC1.out
   have c35:=hm3.oat;have f35:=hm3.blk.frozen 35;have HMK:=A4 hmk;have HM3:=A4 hm3;have hwr2:IntKind.i64.wrap ((a:Int)+(k:Int))=(a:Int)+(k:Int):=IntWalk.i64_in _ (by omega)
   clear hput hm3 hmk HCh x1 y3 z0;have HM6:=A4 ((HM3.out.setAt (max 0 (min ((a:Int)+(k:Int)) ((n:Int)-1)))).ext (Al.drew _));have HCl:=A4 (U2 ((a:Int)+(k:Int)) (n:Int) w3.drew (by omega) (by omega))
   clear hmx hmn hwr hnn;go_upto_region 13 with fail
   go_region_law (first
    |(
     refine Bs rfl 133 #[.int .i64 ((a:Int)+(k:Int)),.int .i64 (n:Int)] rfl (by kernel_rfl) (fun v w'=>v=.int .i64 (max 0 (min ((a:Int)+(k:Int)) ((n:Int)-1)))∧w3.drew=w') (HCl.out.mono fun e w' ⟨h1,h2⟩=>⟨_,h1,rfl,h2⟩) ?_
     rintro v w4 ⟨rfl,rfl⟩))
   all_goals
    clear HCl hwr2 c35 f35 C1 zz;go_wp2_with fail
    go_ret
    exact HM6.out.done ⟨_,_,_,_,HM6.out.out,.inr (.inr (.inl ⟨rfl,hn0,by rw[HN.out,HK.out],HMK.out,by rw[HN.out,HK.out],rfl⟩))⟩)
  |(
   guard_hyp N3
   have hwr:IntKind.i64.wrap ((n:Int)-(a:Int))=(n:Int)-(a:Int):=IntWalk.i64_in _ (by omega)
   by_cases hNa:N+a≤n
   case neg=>
    have hlt:(n:Int)-(a:Int)<(N:Int):=by omega
    have HNo:Hid (¬E7 n a rl k1 k2 114):=A4 (fun h=>by
     have h2:=h.2.2.1 rfl;rw[HN.out]at h2;exact hNa h2)
    have x0:=X0.out w2 hxq.out;clear hNa;go_wp2_with fail
    go_ret
    exact HM2.out.fail (by decide) HNo.out
   have hle:¬(n:Int)-(a:Int)<(N:Int):=by omega
   have hka:a+N≤n:=by omega
   have HCh:=A4 (dN (k:=N) HM2.out.blk HC0.out HC1.out (HI.out.mid.out.text.choose_spec.choose_spec.choose_spec.1) (HI.out.mid.out.edit.choose_spec.1) HC33.out hbq.out (HI.out.line.ext (HI.out.ext.trans hxq.out)) hn hka);go_wp2_with fail
   refine HCh.out.mono ?_
   rintro e w3 ⟨⟨u,rfl⟩,hput⟩;have zz:w3.cell? ⟨w.heap.size,0,none⟩=some (.pointer (some ⟨g,0,none⟩)):=(An.grown hbq.out hput.1 (fun e=>by injection e with e;omega)).cell 0
   obtain⟨cs3,e3,hm3,hmk⟩:=HM2.out.put hput;have C1:w3.cell? ⟨g,1,none⟩=some (.int .i64 (a:Int)):=hm3.cell (by omega) HC1.out
   have c35:=hm3.oat;have f35:=hm3.blk.frozen 35;have HMK:=A4 hmk;have HM3:=A4 hm3;have hwr2:IntKind.i64.wrap ((a:Int)+(N:Int))=(a:Int)+(N:Int):=IntWalk.i64_in _ (by omega)
   clear hput hm3 hmk HCh x1 y3 z0;have HM6:=A4 ((HM3.out.setAt ((a:Int)+(N:Int)-1)).ext (Al.drew _));have hwr3:IntKind.i64.wrap ((a:Int)+(N:Int)-1)=(a:Int)+(N:Int)-1:=IntWalk.i64_in _ (by omega)
   clear hmx hwr hle;go_upto_region 18 with fail
   go_region_law (fail)
   all_goals
    clear hwr2 hwr3 c35 f35 C1 zz;go_wp2_with fail
    go_ret
    exact HM6.out.done ⟨_,_,_,_,HM6.out.out,.inr (.inr (.inr (.inl ⟨rfl,by rw[HN.out];exact hNa,by rw[HN.out],HMK.out,by rw[HN.out],rfl⟩)))⟩)
  |(
   guard_hyp N4
   have c65:=HM2.out.mode;have f65:=HM2.out.blk.frozen 65;have HM3:=A4 (HM2.out.setMode 1);go_wp2_with fail
   go_ret
   exact HM3.out.done ⟨_,_,_,_,HM3.out.out,.inr (.inr (.inr (.inr ⟨rfl,rfl,.inl ⟨rfl,rfl,rfl⟩⟩)))⟩)
  |(
   guard_hyp N5
   have c65:=HM2.out.mode;have f65:=HM2.out.blk.frozen 65;have HM3:=A4 (HM2.out.setMode 2);go_wp2_with fail
   go_ret
   exact HM3.out.done ⟨_,_,_,_,HM3.out.out,.inr (.inr (.inr (.inr ⟨rfl,rfl,.inr (.inr (.inr (.inr ⟨rfl,rfl,rfl⟩)))⟩)))⟩)
  |(
   guard_hyp N6
   have c65:=HM2.out.mode;have f65:=HM2.out.blk.frozen 65;have HM3:=A4 (HM2.out.setMode 1);have zz:(w2.setCell ⟨g,65,none⟩ (.int .i64 1)).cell? ⟨w.heap.size,0,none⟩=some (.pointer (some ⟨g,0,none⟩)):=(Bh hbq.out (by omega) 65 _).cell 0
   have c35:=HM3.out.oat;have f35:=HM3.out.blk.frozen 35;have HM6:=A4 (HM3.out.setAt (n:Int));go_wp2_with fail
   go_ret
   exact HM6.out.done ⟨_,_,_,_,HM6.out.out,.inr (.inr (.inr (.inr ⟨rfl,rfl,.inr (.inr (.inr (.inl ⟨rfl,rfl,rfl⟩)))⟩)))⟩)
  |(
   guard_hyp N7
   have c65:=HM2.out.mode;have f65:=HM2.out.blk.frozen 65;have HM3:=A4 (HM2.out.setMode 1);have zz:(w2.setCell ⟨g,65,none⟩ (.int .i64 1)).cell? ⟨w.heap.size,0,none⟩=some (.pointer (some ⟨g,0,none⟩)):=(Bh hbq.out (by omega) 65 _).cell 0
   have c35:=HM3.out.oat;have f35:=HM3.out.blk.frozen 35;have C1:(w2.setCell ⟨g,65,none⟩ (.int .i64 1)).cell? ⟨g,1,none⟩=some (.int .i64 (a:Int)):=HM3.out.cell (by omega) HC1.out
   obtain⟨P,hP⟩:∃P:Nat,min (a+1) n=P:=⟨_,rfl⟩;have hmn:min ((a:Int)+1) (n:Int)=(P:Int):=by omega
   have hwr:IntKind.i64.wrap ((a:Int)+1)=(a:Int)+1:=IntWalk.i64_in _ (by omega)
   have HPd:=A4 hP;have HM6:=A4 ((HM3.out.setAt (P:Int)).ext (Al.drew _));clear hP;go_upto_region 26 with fail
   clear c65 f65;go_region_law (fail)
   all_goals
    clear hwr hmn c35 f35 C1 zz;go_wp2_with fail
    go_ret
    exact HM6.out.done ⟨_,_,_,_,HM6.out.out,.inr (.inr (.inr (.inr ⟨rfl,rfl,.inr (.inr (.inl ⟨rfl,by rw[HPd.out],rfl⟩))⟩)))⟩)
  |(
   guard_hyp N8
   have c65:=HM2.out.mode;have f65:=HM2.out.blk.frozen 65;have HM3:=A4 (HM2.out.setMode 1);have zz:(w2.setCell ⟨g,65,none⟩ (.int .i64 1)).cell? ⟨w.heap.size,0,none⟩=some (.pointer (some ⟨g,0,none⟩)):=(Bh hbq.out (by omega) 65 _).cell 0
   have c35:=HM3.out.oat;have f35:=HM3.out.blk.frozen 35;have C1:(w2.setCell ⟨g,65,none⟩ (.int .i64 1)).cell? ⟨g,1,none⟩=some (.int .i64 (a:Int)):=HM3.out.cell (by omega) HC1.out
   have C0:(w2.setCell ⟨g,65,none⟩ (.int .i64 1)).cell? ⟨g,0,none⟩=some (.slice A n c):=HM3.out.cell (by omega) HC0.out
   go_upto_region 23 with fail
   clear c65 f65;have HBx:=A4 (Bh hbq.out (show g≠w.heap.size by omega) 65 (.int .i64 1))
   generalize w2.setCell ⟨g,65,none⟩ (.int .i64 1)=w3 at*;have HGd:=A4 (fun wx (he:Al w3 wx)=>oD ((HI.out.line.ext (HI.out.ext.turned HM3.out.grown HI.out.base)).ext he) HI.out.nums hn ha)
   refine wp_region_held_drew (S:=fun w'=>w'.cell? ⟨w.heap.size,0,none⟩=some (.pointer (some ⟨g,0,none⟩))∧w'.cell? ⟨g,0,none⟩=some (.slice A n c)∧w'.cell? ⟨g,1,none⟩=some (.int .i64 (a:Int))) (by kernel_rfl) ⟨zz,C0,C1⟩ (fun hHeld=>?_)
   refine Bo (i:=0) (v:=(.pointer (some ⟨g,0,none⟩))) rfl hHeld ?_
   refine Bo (i:=1) (v:=(.pointer (some ⟨g,0,none⟩))) rfl hHeld ?_
   refine Bo (i:=2) (v:=(.pointer (some ⟨g,0,none⟩))) rfl hHeld ?_
   refine Bo (i:=3) (v:=(.pointer (some ⟨g,0,none⟩))) rfl hHeld ?_
   refine Bo (i:=4) (v:=(.pointer (some ⟨g,0,none⟩))) rfl hHeld ?_
   refine Bo (i:=5) (v:=(.slice A n c)) rfl hHeld ?_
   refine Bo (i:=6) (v:=(.pointer (some ⟨g,0,none⟩))) rfl hHeld ?_
   refine Bo (i:=7) (v:=(.pointer (some ⟨g,0,none⟩))) rfl hHeld ?_
   refine Bo (i:=8) (v:=(.pointer (some ⟨g,0,none⟩))) rfl hHeld ?_
   refine Bo (i:=9) (v:=(.pointer (some ⟨g,1,none⟩))) rfl hHeld ?_
   refine Bo (i:=10) (v:=(.int .i64 (a:Int))) rfl hHeld ?_
   refine Bo (i:=11) (v:=(.agg #[.int .i64 94,.int .i64 0,.int .i64 0])) rfl hHeld ?_
   refine wpAnyH_ready (rs:=[12]) (by kernel_rfl) (by simp) ?_
   refine AllReadyH.cons rfl (fun K hK=>?_) AllReadyH.nil
   refine Bs rfl 128 #[.slice A n c,.int .i64 (a:Int),.agg #[.int .i64 94,.int .i64 0,.int .i64 0],.bool false] rfl (by kernel_rfl) (fun v w'=>v=.tuple #[.int .i64 (F9 l:Nat),.bool false,.int .i64 0]∧Hid (Al w3.drew w')) ((HGd.out _ (Al.drew w3)).mono fun e w' ⟨h1,h2⟩=>⟨_,h1,rfl,A4 h2⟩) ?_
   rintro v w4 ⟨rfl,hx4⟩;refine hK.out _ _ ⟨hx4.out.cell zz,hx4.out.cell C0,hx4.out.cell C1⟩ (fun hHeld2=>?_)
   clear hK K hHeld
   try simp only[List.getElem_toArray,List.getElem_cons_zero,List.getElem_cons_succ,Act.put,List.setIfInBounds_toArray,List.set_cons_zero,List.set_cons_succ]
   refine Bo (i:=13) (v:=(.tuple #[.int .i64 (F9 l:Nat),.bool false,.int .i64 0])) rfl hHeld2 ?_
   refine Bo (i:=14) (v:=(.int .i64 (F9 l:Nat))) rfl hHeld2 ?_
   refine Bo (i:=15) (v:=(.bool false)) rfl hHeld2 ?_
   refine Bo (i:=16) (v:=(.int .i64 0)) rfl hHeld2 ?_
   refine Bo (i:=17) (v:=(.pointer (some ⟨g,0,none⟩))) rfl hHeld2 ?_
   refine Bo (i:=18) (v:=(.pointer (some ⟨g,34,none⟩))) rfl hHeld2 ?_
   refine Bo (i:=19) (v:=(.pointer (some ⟨g,34,none⟩))) rfl hHeld2 ?_
   refine Bo (i:=20) (v:=(.pointer (some ⟨g,35,none⟩))) rfl hHeld2 ?_
   refine wpAnyH_ready (rs:=[21]) (by kernel_rfl) (by simp) ?_
   refine AllReadyH.cons rfl (fun K hK=>?_) AllReadyH.nil
   have HM4:=(HM3.out.ext (Al.drew w3)).ext hx4.out;have HM6:=HM4.setAt (F9 l:Nat);have c354:=HM4.oat;have f354:=HM4.blk.frozen 35;have zz6:(w4.setCell ⟨g,35,none⟩ (.int .i64 (F9 l:Nat))).cell? ⟨w.heap.size,0,none⟩=some (.pointer (some ⟨g,0,none⟩)):=(Bh ((HBx.out.ext (Al.drew w3)).ext hx4.out) (by omega) 35 _).cell 0
   have C06:=HM6.cell (k:=0) (by omega) HC0.out
   have C16:=HM6.cell (k:=1) (by omega) HC1.out
   go_simp
   refine hK.out _ _ ⟨zz6,C06,C16⟩ (fun hHeld3=>?_)
   clear hK K hHeld2
   try simp only[List.getElem_toArray,List.getElem_cons_zero,List.getElem_cons_succ,Act.put,List.setIfInBounds_toArray,List.set_cons_zero,List.set_cons_succ]
   refine wpAnyH_done (by kernel_rfl) ?_ _
   have HM6:=A4 HM6;clear c35 f35 C1 C0 zz hx4 HGd HM4 c354 f354 zz6 C06 C16;go_wp2_with fail
   go_ret
   exact HM6.out.done ⟨_,_,_,_,HM6.out.out,.inr (.inr (.inr (.inr ⟨rfl,rfl,.inr (.inl ⟨rfl,rfl,rfl⟩)⟩)))⟩)
  |(
   guard_hyp N9
   go_wp2_with fail
   go_ret
   exact HM2.out.fail (by decide) (fun h=>HNo.out h.2.2.2))
  |(
   obtain⟨P,hP⟩:∃P:Nat,min (a+1) n=P:=⟨_,rfl⟩;have hPn:P≤n:=by omega
   have hmn:min ((a:Int)+1) (n:Int)=(P:Int):=by omega
   have hwr:IntKind.i64.wrap ((a:Int)+1)=(a:Int)+1:=IntWalk.i64_in _ (by omega)
   have HPd:=A4 hP;clear hP;have HP:=A4 (Z2 (p:=P) (HI.out.wext (hxq.out.trans (Al.drew w2))) hPn);go_upto_region 5 with fail
   go_region_law (first
    |(
     refine Bs rfl 130 #[.pointer (some ⟨g,0,none⟩),.int .i64 (P:Int)] rfl (by kernel_rfl) (fun v w'=>∃er,v=.int .i64 er∧Hid (Ch g w2.drew (Nb n rl k1 k2) (Ro g l n P rl k1 k2 fk fa) (.returned (.int .i64 er)) w')) (HP.out.mono fun e w' h=>by obtain⟨er,cs',h1,h2⟩:=h;exact⟨_,h1,er,rfl,A4 ⟨er,cs',rfl,h2⟩⟩) ?_
     rintro v w3 ⟨er,rfl,hD⟩))
   all_goals
    have HF:Hid (Ch g w (E7 n a rl k1 k2 112) (Dl g l n a rl k1 k2 112 k5 fk fa) (.returned (.int .i64 er)) w3):=A4 (hD.out.from (Ev (hxq.out.trans (Al.drew w2)) (some g)) (fun h=>h.1 (.inl rfl)) (fun cs' ⟨m,at_,e,h1,h2⟩=>⟨m,at_,0,e,h1,.inl ⟨rfl,by rw[HPd.out];exact h2,rfl⟩⟩))
    clear hD HP z0 x1 y3;go_wp2_with fail
    go_ret
    exact HF.out)):p:=h
theorem zT (h:p:=by
 first
  |(
   guard_hyp N1
   refine wpList_plain hgd fun K hK=>?_)
  |(
   have hw:Region.wanted o (yielded ops a.tmps)=true:=by simp[Region.wanted,hgd]
   rw[if_pos hw])
 have key:∃A' c' w',(Builtin.append_ #[t,t] o.type #[.slice A n c,.slice B m d]).run P w=.ok (.slice A' (n+m) c') w'∧Ay w' base e z A' (n+m) c' (xs++news)∧w.grownBy w' (Value.slice A n c).ownBlock∧
  ((Value.slice A' (n+m) c').ownBlock=(Value.slice A n c).ownBlock∨(Value.slice A' (n+m) c').ownBlock=some w.heap.size):=by
  rcases B with _|ad
  ·have h0:m=0:=by
    rcases Nat.eq_zero_or_pos m with h0|h0
    ·exact h0
    ·obtain⟨ad,h,_⟩:=hr.at_ h0
     cases h
   subst h0;have hn:news=[]:=List.eq_nil_of_length_eq_zero (by simpa using hr.len)
   subst hn;refine⟨A,c,w,?_,by simpa using hown,World.grownBy.refl w _,.inl rfl⟩
   rcases hown.2 with⟨hv,hn0⟩|⟨g,cap,cur,hv,_,_,hnc,_⟩
   ·injection hv with e1 e2 e3
    subst e1;subst e2;subst e3;simp[Builtin.append_,run_underlying ht,sizeOf,typeInfo,hi,Builtin.lenOf,Builtin.firstCells]
   ·injection hv with e1 e2 e3
    subst e1;subst e3;simp[Builtin.append_,run_underlying ht,sizeOf,typeInfo,hi,Builtin.lenOf,Builtin.firstCells,hnc,storeCells]
  ·have hc:∀j u,news[j]? = some u→w.cell? (ad.add j)=some u:=by
    rcases Nat.eq_zero_or_pos m with h0|h0
    ·subst h0
     have hn:news=[]:=List.eq_nil_of_length_eq_zero (by simpa using hr.len)
     subst hn;intro j u hu;simp at hu
    ·obtain⟨ad',e1,hc⟩:=hr.at_ h0
     injection e1 with e1;subst e1;exact hc
   obtain⟨v',w',hrun,h2,h3,_,h5⟩:=run_append_own_at (P:=P) w base t o.type e i zv z bytes ht hi hz hsize hby hzs hsz (.slice A n c) n xs hown ad m d news hr.len hc h1 h63 hbytes hbase;have hv:∃A' c',v'=.slice A' (n+m) c':=by
    exact I78
   obtain⟨A',c',rfl⟩:=hv;exact⟨A',c',w',hrun,h2,h3,h5⟩
 obtain⟨A',c',w',hrun,h2,h3,h4⟩:=key;unfold Oper.wp execOp;simp only[ho,resolve,invoke,builtin,Sem.run_bind,Sem.run_pure,Result.andThen_ok,List.map_toArray,List.map_cons,List.map_nil,hs,hx,hrun]
 first
  |(
   guard_hyp N1
   exact hK _ _ (h A' c' w' h2 h3 h4 (Al.grown he h3 hown hb)))
  |(
   exact h A' c' w' h2 h3 h4 (Al.grown he h3 hown hb))):p:=h
theorem wT (h:p:=by
 first
  |(
   (first|guard_hyp N1|guard_hyp N4)
   have hx:=Al.alloc w (.cells #[.int .i64 key,.int .i64 1,.int .i64 arg] 202);have hb:=An.new w 202 #[.int .i64 key,.int .i64 1,.int .i64 arg])
  |(
   (first|guard_hyp N2|guard_hyp N5)
   have hx:=Al.alloc w (.cells #[.int .i64 key,.int .i64 q,.int .i64 arg] 202);have hb:=An.new w 202 #[.int .i64 key,.int .i64 q,.int .i64 arg])
  |(
   have hx:=Al.alloc w (.cells #[.int .i64 key,.int .i64 0,.int .i64 arg] 202);have hb:=An.new w 202 #[.int .i64 key,.int .i64 0,.int .i64 arg])
 go_enter Tryz.func128,Tryz.ntmps128
 go_wp2_with fail
 refine(HC.out _).mono ?_
 rintro e w1 ⟨rfl,he1⟩;have hb1:=hb.ext he1;have he:=hx.trans he1;have c0:=hb1.cell 0;have c1:=hb1.cell 1;have c2:=hb1.cell 2;simp only[List.getElem?_toArray,List.getElem?_cons_zero,List.getElem?_cons_succ]at c0 c1 c2;clear hx hb he1;have hws:=he.hsize
 first
  |(
   (first|guard_hyp N2|guard_hyp N5)
   have hx2:Al w1 ((w1.alloc (.cells #[.slice A n c,.int .i64 k,.int .i64 q,.bool op] 219)).alloc (.cells #[.int .i64 0,.bool false] 221)):=(Al.alloc _ _).to_alloc _)
  |(
   have hx2:Al w1 ((w1.alloc (.cells #[.slice A n c,.int .i64 k,.int .i64 1,.bool op] 219)).alloc (.cells #[.int .i64 0,.bool false] 221)):=(Al.alloc _ _).to_alloc _)
 have d0:=hx2.cell c0;have d2:=hx2.cell c2
 first
  |(
   (first|guard_hyp N2|guard_hyp N5)
   have hb3:=(An.new w1 219 #[.slice A n c,.int .i64 k,.int .i64 q,.bool op]).ext (Al.alloc _ (.cells #[.int .i64 0,.bool false] 221));have hb4:An ((w1.alloc (.cells #[.slice A n c,.int .i64 k,.int .i64 q,.bool op] 219)).alloc (.cells #[.int .i64 0,.bool false] 221)) (w1.heap.size+1) 221 #[.int .i64 0,.bool false]:=by
    simpa using An.new (w1.alloc (.cells #[.slice A n c,.int .i64 k,.int .i64 q,.bool op] 219)) 221 #[.int .i64 0,.bool false])
  |(
   have hb3:=(An.new w1 219 #[.slice A n c,.int .i64 k,.int .i64 1,.bool op]).ext (Al.alloc _ (.cells #[.int .i64 0,.bool false] 221));have hb4:An ((w1.alloc (.cells #[.slice A n c,.int .i64 k,.int .i64 1,.bool op] 219)).alloc (.cells #[.int .i64 0,.bool false] 221)) (w1.heap.size+1) 221 #[.int .i64 0,.bool false]:=by
    simpa using An.new (w1.alloc (.cells #[.slice A n c,.int .i64 k,.int .i64 1,.bool op] 219)) 221 #[.int .i64 0,.bool false])
 go_wp2_with fail
 refine(HK.out _).mono ?_
 rintro e w2 ⟨rfl,rfl⟩;go_wp2_with fail
 refine(HP.out _ (he.trans hx2)).mono ?_
 rintro e w3 ⟨⟨o,hR,hO⟩,he3⟩;have HR:=A4 hR;clear hR;have hq:=hb4.ext he3;have f0:=hq.frozen 0;have f1:=hq.frozen 1;have c4:=hq.cell 0;have c5:=hq.cell 1;simp only[List.getElem?_toArray,List.getElem?_cons_zero,List.getElem?_cons_succ]at c4 c5;clear HP hb4 hb3 c0 c1 c2 d0 d2 hb1;rcases o with _|⟨m,i⟩
 ·rw[Lh]at hO
  subst hO;go_wp2_with fail
  have hbf:An ((w3.setCell ⟨w1.heap.size+1,0,none⟩ (.int .i64 0)).setCell ⟨w1.heap.size+1,1,none⟩ (.bool false)) (w1.heap.size+1) 221 #[.int .i64 0,.bool false]:=by
   simpa using(hq.set_ 0 (.int .i64 0)).set_ 1 (.bool false)
  have hef:=((he.trans (hx2.trans he3)).setCell (p:=⟨w1.heap.size+1,0,none⟩) (Nat.le_succ_of_le hws) (.int .i64 0)).setCell (p:=⟨w1.heap.size+1,1,none⟩) (Nat.le_succ_of_le hws) (.bool false);clear c4 c5 f0 f1 hq
  revert hbf hef
  generalize (w3.setCell ⟨w1.heap.size+1,0,none⟩ (.int .i64 0)).setCell ⟨w1.heap.size+1,1,none⟩ (.bool false)=w4;intro hbf hef;have c6:=hbf.cell 0;have c7:=hbf.cell 1;simp only[List.getElem?_toArray,List.getElem?_cons_zero,List.getElem?_cons_succ]at c6 c7;clear hbf;go_quiet (fail)
  go_wp2_with fail
  go_ret3
  exact⟨⟨_,HR.out,rfl⟩,hef.to_drewN _⟩
 ·rw[Rc]at hO
  subst hO;go_wp2_with fail
  have hbf:An ((w3.setCell ⟨w1.heap.size+1,0,none⟩ (.int .i64 (m:Int))).setCell ⟨w1.heap.size+1,1,none⟩ (.bool i)) (w1.heap.size+1) 221 #[.int .i64 (m:Int),.bool i]:=by
   simpa using(hq.set_ 0 (.int .i64 (m:Int))).set_ 1 (.bool i)
  have hef:=((he.trans (hx2.trans he3)).setCell (p:=⟨w1.heap.size+1,0,none⟩) (Nat.le_succ_of_le hws) (.int .i64 (m:Int))).setCell (p:=⟨w1.heap.size+1,1,none⟩) (Nat.le_succ_of_le hws) (.bool i);clear c4 c5 f0 f1 hq
  revert hbf hef
  generalize (w3.setCell ⟨w1.heap.size+1,0,none⟩ (.int .i64 (m:Int))).setCell ⟨w1.heap.size+1,1,none⟩ (.bool i)=w4;intro hbf hef;have c6:=hbf.cell 0;have c7:=hbf.cell 1;simp only[List.getElem?_toArray,List.getElem?_cons_zero,List.getElem?_cons_succ]at c6 c7;clear hbf;go_quiet (fail)
  go_wp2_with fail
  go_ret3
  exact⟨⟨_,HR.out,rfl⟩,hef.to_drewN _⟩):p:=h
theorem yK (h:p:=by
 first
  |(
   guard_hyp N2
   have HA:Hid (∀wq:World,_):=A4 fun(wq:World)=>dW (k:=k) wq h hw
   unfold Ja at HA;simp only at HA)
  |skip
 obtain⟨hb0,hb1,hb2,hx⟩:=three (w:=w) (.int .i64 f) (.int .i64 r) (.int .i64 o) (.int .i64 s) (.int .i64 wt) (.int .i64 0) (.int .i64 0) (.int .i64 0) (.int .i64 0) (.int .i64 0) (.int .i64 0) (.int .i64 0) (.int .i64 0) (.int .i64 0) (.int .i64 0);have HCk:Hid (∀wq:World,_):=A4 fun(wq:World)=>Qn wq h
 unfold Ja at HCk;simp only at HCk
 first
  |(
   guard_hyp N2
   have hwb:(wt !=0)=true:=by simpa using hw
   rcases ht:Fl ⟨f,r,o,s,wt⟩ k with⟨⟨tf,tr,to,ts,tw⟩,⟨u0,u1,u2,u3,u4⟩,th⟩;rw[ht]at HA;unfold Sd Ja pR at HA;simp only at HA;clear ht hw;have kb:(k==127)=false:=by simpa using h127)
  |skip
 clear h
 first
  |(
   guard_hyp N2
   unfold Sd Ja pR)
  |(
   unfold Ja)
 simp only;go_enter Tryz.func33,Tryz.ntmps33
 go_wp2_with fail
 refine(HCk.out _).mono ?_
 rintro e w1 ⟨rfl,he1⟩;have HB0:=A4 (hb0.ext he1);have HB1:=A4 (hb1.ext he1);have HB2:=A4 (hb2.ext he1);have HEW:=A4 (hx.trans he1);obtain⟨⟨q0,q1,q2,q3,q4⟩,⟨r0,r1,r2,r3,r4⟩⟩:=HB0.out.five;clear hb0 hb1 hb2 hx HCk he1
 first
  |(
   guard_hyp N2
   go_wp2_with fail
   refine(HA.out _).mono ?_
   rintro e w2 ⟨rfl,he2⟩;have HD1:=A4 (HB1.out.ext he2);have HD2:=A4 (HB2.out.ext he2);have HEX:=A4 (HEW.out.trans he2);clear HA HB0 HB1 HB2 HEW he2;have hB1:=Cq (.int .i64 u0) (.int .i64 u1) (.int .i64 u2) (.int .i64 u3) (.int .i64 u4) (Lk (.int .i64 tf) (.int .i64 tr) (.int .i64 to) (.int .i64 ts) (.int .i64 tw) HD1.out) (show w.heap.size+1+1≠w.heap.size+1 by omega)
   have hB2:=Lk (.int .i64 u0) (.int .i64 u1) (.int .i64 u2) (.int .i64 u3) (.int .i64 u4) (Cq (.int .i64 tf) (.int .i64 tr) (.int .i64 to) (.int .i64 ts) (.int .i64 tw) HD2.out (show w.heap.size+1≠w.heap.size+1+1 by omega))
   have hend:=Df (.int .i64 u0) (.int .i64 u1) (.int .i64 u2) (.int .i64 u3) (.int .i64 u4) (Df (.int .i64 tf) (.int .i64 tr) (.int .i64 to) (.int .i64 ts) (.int .i64 tw) HEX.out (Nat.le_succ w.heap.size)) (show w.heap.size≤w.heap.size+1+1 by omega))
  |(
   have hB1:=Cq (.int .i64 0) (.int .i64 0) (.int .i64 0) (.int .i64 0) (.int .i64 0) (Lk (.int .i64 0) (.int .i64 0) (.int .i64 0) (.int .i64 0) (.int .i64 0) HB1.out) (show w.heap.size+1+1≠w.heap.size+1 by omega)
   have hB2:=Lk (.int .i64 0) (.int .i64 0) (.int .i64 0) (.int .i64 0) (.int .i64 0) (Cq (.int .i64 0) (.int .i64 0) (.int .i64 0) (.int .i64 0) (.int .i64 0) HB2.out (show w.heap.size+1≠w.heap.size+1+1 by omega))
   have hend:=Df (.int .i64 0) (.int .i64 0) (.int .i64 0) (.int .i64 0) (.int .i64 0) (Df (.int .i64 0) (.int .i64 0) (.int .i64 0) (.int .i64 0) (.int .i64 0) HEW.out (Nat.le_succ w.heap.size)) (show w.heap.size≤w.heap.size+1+1 by omega))
 obtain⟨⟨e0,e1,e2,e3,e4⟩,_⟩:=hB1.five;obtain⟨⟨d0,d1,d2,d3,d4⟩,_⟩:=hB2.five
 first
  |(
   guard_hyp N2
   obtain⟨⟨c0,c1,c2,c3,c4⟩,⟨f0,f1,f2,f3,f4⟩⟩:=An.five HD1.out;obtain⟨⟨x0,x1,x2,x3,x4⟩,⟨y0,y1,y2,y3,y4⟩⟩:=An.five HD2.out)
  |(
   obtain⟨⟨c0,c1,c2,c3,c4⟩,⟨f0,f1,f2,f3,f4⟩⟩:=An.five HB1.out;obtain⟨⟨x0,x1,x2,x3,x4⟩,⟨y0,y1,y2,y3,y4⟩⟩:=An.five HB2.out)
 clear hB1 hB2;clear q0 q1 q2 q3 q4 r0 r1 r2 r3 r4;go_wp2_with fail
 refine bodyPost_ret (by simp[results,Tryz.results33,go_sem,e0,e1,e2,e3,e4,d0,d1,d2,d3,d4];try rfl) rfl ?_
 exact⟨rfl,hend⟩):p:=h
theorem zS (h:p:=by
 first
  |(
   guard_hyp N1
   have hkb:(k3==0)=false:=by simp[hk]
   have HRg:Hid (∀wy,Al wc wy→Calls Tryz.prog 129 #[.slice A n c,.int .i64 (a:Int),.agg #[.int .i64 mk,.int .i64 k1,.int .i64 ma]] wy fun e w'=>Jw l n a mk k1 ma e∧Al wy w'):=A4 fun wy he=>
    iH (HIc.out.line.ext (HIc.out.ext.trans he)) HIc.out.nums
   have HK:=A4 hk;have HK3:Hid (k3=100∨k3=99∨k3=121):=A4 (hk3.resolve_left hk);clear hk hk3;go_upto_region 9 with fail)
  |(
   subst hk;have HGo:Hid (∀wy,Al wc wy→Calls Tryz.prog 128 #[.slice A n c,.int .i64 (a:Int),.agg #[.int .i64 mk,.int .i64 k1,.int .i64 ma],.bool false] wy fun e w'=>Qw l n a mk k1 ma false e∧Al wy w'):=A4 fun wy he=>
    Xm (HIc.out.line.ext (HIc.out.ext.trans he)) HIc.out.nums
   go_upto_region 5 with fail)
 refine wp_region_held_drew (S:=fun w'=>w'.cell? ⟨g,0,none⟩=some (.slice A n c)∧w'.cell? ⟨g,1,none⟩=some (.int .i64 (a:Int))∧An w' p3 202 #[.int .i64 mk,.int .i64 k1,.int .i64 ma]) (by kernel_rfl) ⟨c0,c1,h3⟩ (fun hHeld=>?_)
 refine Bo (i:=0) (v:=(.pointer (some ⟨g,0,none⟩))) rfl hHeld ?_
 refine Bo (i:=1) (v:=(.pointer (some ⟨g,0,none⟩))) rfl hHeld ?_
 refine Bo (i:=2) (v:=(.pointer (some ⟨g,0,none⟩))) rfl hHeld ?_
 refine Bo (i:=3) (v:=(.pointer (some ⟨g,0,none⟩))) rfl hHeld ?_
 refine Bo (i:=4) (v:=(.slice A n c)) rfl hHeld ?_
 refine Bo (i:=5) (v:=(.pointer (some ⟨g,0,none⟩))) rfl hHeld ?_
 refine Bo (i:=6) (v:=(.pointer (some ⟨g,0,none⟩))) rfl hHeld ?_
 refine Bo (i:=7) (v:=(.pointer (some ⟨g,0,none⟩))) rfl hHeld ?_
 refine Bo (i:=8) (v:=(.pointer (some ⟨g,1,none⟩))) rfl hHeld ?_
 refine Bo (i:=9) (v:=(.int .i64 (a:Int))) rfl hHeld ?_
 refine F4 (i:=10) (v:=(.agg #[.int .i64 mk,.int .i64 k1,.int .i64 ma])) rfl (fun w hSw=>by exact Gy rfl 202 (.tmp 3) rfl p3 0 rfl 202 #[.int .i64 mk,.int .i64 k1,.int .i64 ma] #[.int .i64 mk,.int .i64 k1,.int .i64 ma] (0,0) _ hSw.2.2 (fun j v h=>by simpa using h) Tryz.underlying202 rfl Ej) hHeld ?_
 refine wpAnyH_ready (rs:=[11]) (by kernel_rfl) (by simp) ?_
 refine AllReadyH.cons rfl (fun K hK=>?_) AllReadyH.nil
 first
  |(
   guard_hyp N1
   refine Bs rfl 129 #[.slice A n c,.int .i64 (a:Int),.agg #[.int .i64 mk,.int .i64 k1,.int .i64 ma]] rfl (by kernel_rfl) (fun v w'=>∃(x y er:Int),v=.tuple #[.int .i64 x,.int .i64 y,.int .i64 er]∧Jw l n a mk k1 ma (.returned v)∧Al wc.drew w') ((HRg.out _ (Al.drew wc)).mono fun e w' ⟨h1,h2⟩=>by obtain⟨x,y,er,rfl⟩:=Sg h1;exact⟨_,rfl,x,y,er,rfl,h1,h2⟩) ?_
   rintro v W1 ⟨x,y,er,rfl,hR,hxc⟩)
  |(
   refine Bs rfl 128 #[.slice A n c,.int .i64 (a:Int),.agg #[.int .i64 mk,.int .i64 k1,.int .i64 ma],.bool false] rfl (by kernel_rfl) (fun v w'=>∃(x:Int) (i:Bool) (er:Int),v=.tuple #[.int .i64 x,.bool i,.int .i64 er]∧Qw l n a mk k1 ma false (.returned v)∧Al wc.drew w') ((HGo.out _ (Al.drew wc)).mono fun e w' ⟨h1,h2⟩=>by obtain⟨x,i,er,rfl⟩:=Xz h1;exact⟨_,rfl,x,i,er,rfl,h1,h2⟩) ?_
   rintro v W1 ⟨x,i,er,rfl,hR,hxc⟩)
 refine hK.out _ _ ⟨hxc.cell c0,hxc.cell c1,h3.ext ((Al.drew wc).trans hxc)⟩ (fun hHeld2=>?_)
 clear hK K hHeld
 try simp only[List.getElem_toArray,List.getElem_cons_zero,List.getElem_cons_succ,Act.put,List.setIfInBounds_toArray,List.set_cons_zero,List.set_cons_succ]
 first
  |(
   guard_hyp N1
   refine Bo (i:=12) (v:=(.tuple #[.int .i64 x,.int .i64 y,.int .i64 er])) rfl hHeld2 ?_)
  |(
   refine Bo (i:=12) (v:=(.tuple #[.int .i64 x,.bool i,.int .i64 er])) rfl hHeld2 ?_)
 refine Bo (i:=13) (v:=(.int .i64 x)) rfl hHeld2 ?_
 first
  |(
   guard_hyp N1
   refine Bo (i:=14) (v:=(.int .i64 y)) rfl hHeld2 ?_)
  |(
   refine Bo (i:=14) (v:=(.bool i)) rfl hHeld2 ?_)
 refine Bo (i:=15) (v:=(.int .i64 er)) rfl hHeld2 ?_
 refine Bo (i:=16) (v:=(.int .i64 x)) rfl hHeld2 ?_
 first
  |(
   guard_hyp N1
   refine Bo (i:=17) (v:=(.int .i64 y)) rfl hHeld2 ?_)
  |(
   refine Bo (i:=17) (v:=(.bool i)) rfl hHeld2 ?_)
 refine Bo (i:=18) (v:=(.int .i64 er)) rfl hHeld2 ?_
 refine wpAnyH_done (by kernel_rfl) ?_ _
 first
  |(
   guard_hyp N1
   clear c0 c1 c31 h3 hHeld2 HRg hkb;have HI1:=A4 ((HIc.out.wext (Al.drew wc)).wext hxc);have H41:=A4 ((H4.out.ext (Al.drew wc)).ext hxc);have HM1:=A4 ((HM.out.ext (Al.drew wc)).ext hxc);clear H3 H4 HM HIc HX hxc;rcases Xw hR with⟨rfl,f,t,rfl,rfl,hrg⟩|⟨her,hG⟩
   case inr=>
    have HFl:Hid (Ch g w (Mj l n a rl k1 k2 k3 k4 k5 fk fa) (Jg g l n a rl k1 k2 k3 k4 k5 fk fa) (.returned (.int .i64 er)) W1):=A4 (HM1.out.fail her (by
     rintro⟨mk',ma',zk',za',h1,h2,h3,_⟩;rw[HFq.out]at h1;injection h1 with h1;simp at h1;obtain⟨rfl,rfl,rfl,rfl⟩:=h1;exact hG ⟨h2,by simpa[HK.out]using h3⟩))
    clear hG hR;go_wp2_with fail
    go_ret
    exact HFl.out
   case inl=>
    have HRI:=A4 hrg;have hbd:=hrg.bd HI1.out.place;have HOp:=A4 (Pb (f:=f) (t:=t) (whole:=false) HI1.out hbd.2.2.1 hbd.2.2.2 HK3.out);clear hR hrg hbd;go_wp2_with fail
    refine HOp.out.mono ?_
    rintro e W2 ⟨er2,cs2,rfl,hgr,hOk,hok⟩;have HGR:=A4 (Co HM1.out.grown hgr);by_cases he2:er2=0
    case neg=>
     have HFl:Hid (Ch g w (Mj l n a rl k1 k2 k3 k4 k5 fk fa) (Jg g l n a rl k1 k2 k3 k4 k5 fk fa) (.returned (.int .i64 er2)) W2):=A4 ⟨er2,cs2,rfl,HGR.out,(by
      rintro⟨mk',ma',zk',za',h1,h2,h3,h4⟩;rw[HFq.out]at h1;injection h1 with h1;simp at h1;obtain⟨rfl,rfl,rfl,rfl⟩:=h1;exact hOk (h4 HK.out f t HRI.out)),fun h=>absurd h he2⟩
     clear hgr hOk hok HOp;go_wp2_with fail
     go_ret
     exact HFl.out
    subst he2;obtain⟨hb2,hz2,hone2,m,at_,md,rl',e',hout,hrel⟩:=hok rfl;have HB2:=A4 hb2;have HZ2:=A4 hz2;have H42:=A4 (An.grown H41.out hgr (fun e=>by injection e with e;have:=HG.out;omega))
    have HM3:Hid (Ch g w (Mj l n a rl k1 k2 k3 k4 k5 fk fa) (Jg g l n a rl k1 k2 k3 k4 k5 fk fa) (.returned (.int .i64 0)) (W2.setRow g (Lj cs2 63 #[.int .i64 zk,.int .i64 za]))):=A4 (by
     have ho3:=(hout.grown (Eo W2 g (Lj cs2 63 #[.int .i64 zk,.int .i64 za])) (Nat.lt_succ_self g)).setFind zk za;exact⟨0,_,rfl,Co HGR.out (Eo W2 g _),fun _=>rfl,fun _=>⟨An.setRow hb2 _,ho3.size,ho3.one,mk,ma,zk,za,HFq.out,.inr ⟨HK.out,f,t,m,at_,md,rl',e',HRI.out,ho3,hrel⟩⟩⟩)
    clear hb2 hz2 hone2 hout hrel hgr hOk hok HOp HM1 HI1 H41;go_wp2_with (first
     |(refine wpList_load_row rfl 38 (.tmp 4) rfl p4 rfl 38 #[.int .i64 zk,.int .i64 za] (0,0) _ H42.out Tryz.underlying38 rfl Dg ?_)
     |(refine Jk rfl 38 (.tmp 95) (.tmp 92) rfl g 63 #[.int .i64 zk,.int .i64 za] rfl rfl 185 cs2 HB2.out Dg (by rw[HZ2.out];exact(by decide:65≤67)) (by simp[Value.oneCell']) ?_))
    go_ret
    exact HM3.out)
  |(
   clear c0 c1 c31 h3 hHeld2 HGo;have hm1:=(HM.out.ext (Al.drew wc)).ext hxc;have c35:=hm1.oat;have f35:=hm1.blk.frozen 35;have h4:=(H4.out.ext (Al.drew wc)).ext hxc;have HM1:=A4 hm1;have H41:=A4 h4;clear H3 H4 HM HIc HX hxc hm1 h4;rcases iS hln.out hR with⟨rfl,hG⟩|⟨her,hG⟩
   case inr=>
    have HFl:Hid (Ch g w (Mj l n a rl k1 k2 0 k4 k5 fk fa) (Jg g l n a rl k1 k2 0 k4 k5 fk fa) (.returned (.int .i64 er)) W1):=A4 (HM1.out.fail her (by
     rintro⟨mk',ma',zk',za',h1,h2,h3,_⟩;rw[HFq.out]at h1;injection h1 with h1;simp at h1;obtain⟨rfl,rfl,rfl,rfl⟩:=h1;exact hG ⟨h2,by simpa using h3⟩))
    clear hG hR;go_wp2_with fail
    go_ret
    exact HFl.out
   case inl=>
    have HGI:=A4 hG;clear hG hR;go_upto_region 7 with fail
    have hm2:Da w g cs (W1.setCell ⟨g,35,none⟩ (.int .i64 x)).drew (cs.setIfInBounds 35 (.int .i64 x)) l x 0 fk fa rl []:=(HM1.out.setAt x).ext (Al.drew _);have h4d:An W1.drew p4 38 #[.int .i64 zk,.int .i64 za]:=H41.out.ext (Al.drew _);have S2:An (W1.setCell ⟨g,35,none⟩ (.int .i64 x)).drew p4 38 #[.int .i64 zk,.int .i64 za]:=Bh H41.out (show g≠p4 by have:=HG.out;omega) 35 _
    have S3:=An.setRow_other S2 (g':=g) (Lj (cs.setIfInBounds 35 (.int .i64 x)) 63 #[.int .i64 zk,.int .i64 za]) (show p4≠g by have:=HG.out;omega)
    have HM3:=A4 (hm2.setFind zk za);refine wp_region_held_drew (S:=fun w'=>An w' p4 38 #[.int .i64 zk,.int .i64 za]) (by kernel_rfl) h4d (fun hHeld=>?_)
    refine B8 (i:=0) (v:=(.pointer (some ⟨g,0,none⟩))) rfl hHeld ?_
    refine B8 (i:=1) (v:=(.pointer (some ⟨g,0,none⟩))) rfl hHeld ?_
    refine B8 (i:=2) (v:=(.int .i64 x)) rfl hHeld ?_
    refine F4 (i:=3) (v:=(.agg #[.int .i64 zk,.int .i64 za])) rfl (fun w hSw=>by exact Gy rfl 38 (.tmp 4) rfl p4 0 rfl 38 #[.int .i64 zk,.int .i64 za] #[.int .i64 zk,.int .i64 za] (0,0) _ hSw (fun j v h=>by simpa using h) Tryz.underlying38 rfl Dg) hHeld ?_
    refine B8 (i:=4) (v:=(.pointer (some ⟨g,0,none⟩))) rfl hHeld ?_
    refine B8 (i:=5) (v:=(.pointer (some ⟨g,34,none⟩))) rfl hHeld ?_
    refine B8 (i:=6) (v:=(.pointer (some ⟨g,34,none⟩))) rfl hHeld ?_
    refine B8 (i:=7) (v:=(.pointer (some ⟨g,35,none⟩))) rfl hHeld ?_
    refine wpAnyH_ready (rs:=[8]) (by kernel_rfl) (by simp) ?_
    refine AllReadyH.cons rfl (fun K hK=>?_) AllReadyH.nil
    go_simp
    refine hK.out _ _ (S2:An (W1.setCell ⟨g,35,none⟩ (.int .i64 x)).drew p4 38 #[.int .i64 zk,.int .i64 za]) (fun hHeld2=>?_)
    clear hK K hHeld
    try simp only[List.getElem_toArray,List.getElem_cons_zero,List.getElem_cons_succ,Act.put,List.setIfInBounds_toArray,List.set_cons_zero,List.set_cons_succ]
    refine B8 (i:=9) (v:=(.pointer (some ⟨g,0,none⟩))) rfl hHeld2 ?_
    refine B8 (i:=10) (v:=(.pointer (some ⟨g,34,none⟩))) rfl hHeld2 ?_
    refine B8 (i:=11) (v:=(.pointer (some ⟨g,63,none⟩))) rfl hHeld2 ?_
    refine wpAnyH_ready (rs:=[12]) (by kernel_rfl) (by simp) ?_
    refine AllReadyH.cons rfl (fun K hK=>?_) AllReadyH.nil
    refine Bv rfl 38 (.tmp 63) (.tmp 56) rfl g 63 #[.int .i64 zk,.int .i64 za] rfl rfl 185 _ hm2.blk Dg (by rw[hm2.out.size];exact(by decide:65≤67)) (by simp[Value.oneCell']) ?_
    refine hK.out _ _ S3 (fun hHeld3=>?_)
    clear hK K hHeld2
    try simp only[List.getElem_toArray,List.getElem_cons_zero,List.getElem_cons_succ,Act.put,List.setIfInBounds_toArray,List.set_cons_zero,List.set_cons_succ]
    refine wpAnyH_done (by kernel_rfl) ?_ _
    have HFl:Hid (Ch g w (Mj l n a rl k1 k2 0 k4 k5 fk fa) (Jg g l n a rl k1 k2 0 k4 k5 fk fa) (.returned (.int .i64 0)) _):=A4 (HM3.out.done ⟨mk,ma,zk,za,HFq.out,.inl ⟨rfl,x,HGI.out,HM3.out.out⟩⟩);clear hm2 h4d S2 S3 HM3 HGI hHeld3 c35 f35;go_wp2_with fail
    go_ret
    exact HFl.out)):p:=h
theorem wS (h:p:=by
 go_simp
 first
  |(
   guard_hyp N1
   refine hK.out _ _ hSa (fun _=>?_))
  |(
   refine hK.out _ _ hSp (fun _=>?_))
 clear hK K
 try simp only[List.getElem_toArray,List.getElem_cons_zero,List.getElem_cons_succ,Act.put,List.setIfInBounds_toArray,List.set_cons_zero,List.set_cons_succ]
 first
  |(
   guard_hyp N1
   refine wpAnyH_ready (rs:=[10]) (by decide +kernel) (by simp) (AllReadyH.cons rfl (fun K hK=>?_) AllReadyH.nil))
  |(
   refine wpAnyH_ready (rs:=[12]) (by decide +kernel) (by simp) (AllReadyH.cons rfl (fun K hK=>?_) AllReadyH.nil))
 go_simp
 refine hK.out _ _ hSa (fun _=>?_)
 clear hK K
 try simp only[List.getElem_toArray,List.getElem_cons_zero,List.getElem_cons_succ,Act.put,List.setIfInBounds_toArray,List.set_cons_zero,List.set_cons_succ]
 refine wpAnyH_ready (rs:=[13]) (by decide +kernel) (by simp) (AllReadyH.cons rfl (fun K hK=>?_) AllReadyH.nil)
 have hxx:=U5 cur;refine Mn rfl (.tmp 43) (.tmp 45) 27 rfl (pY cur) 0 3 i0 _ 1 8 Tryz.underlying27 hi hz0 hz1 hz2 rfl (by decide) A5 n5 k5 _ rfl hg3 #[.int .i64 key] rfl (by simp[Value.oneCell']) rfl (by unfold maxLen;omega) (by omega) hxx (Nat.zero_le _) (Nat.zero_le _) ?_
 intro A2 k2 w7 hO2 hgr hor _;have hb7:=hg2.grown hgr fun e=>hnq e.symm
 have hp7:=hpl.grown hgr fun e=>hne e.symm
 refine hK.out _ _ ((hp7.cell 47).trans (congrArg (fun x=>some (Value.pointer x)) HHV.out)) (fun hS=>?_)
 clear hK K
 try simp only[List.getElem_toArray,List.getElem_cons_zero,List.getElem_cons_succ,Act.put,List.setIfInBounds_toArray,List.set_cons_zero,List.set_cons_succ]
 refine B8 (i:=14) (v:=(.pointer (some ⟨qq,0,none⟩))) rfl hS ?_
 refine B8 (i:=15) (v:=(.pointer (some ⟨qq,5,none⟩))) rfl hS ?_
 have e5:w7.cell? ⟨qq,5,none⟩=some (.slice A5 n5 k5):=hb7.cell 5;have f5:=hb7.frozen 5;refine wpAnyH_ready (rs:=[16]) (by decide +kernel) (by simp) (AllReadyH.cons rfl (fun K hK=>?_) AllReadyH.nil)
 go_simp
 have HFin:=A4 (Br.trans HTR'.out (mY hgM HHV.out HHS.out G1.out hg2 hg3 G5.out hgr hO2 hor (by omega)))
 have hpq:qq≠p:=Ey hg2 hpl (by decide)
 have hp8:=Bh (g':=qq) hp7 hpq 5 (.slice A2 (n5+1) k2);have hS8:=(hp8.cell 47).trans (congrArg (fun x=>some (Value.pointer x)) HHV.out)
 refine hK.out _ _ hS8 (fun _=>?_)
 clear hK K hO2 hgr hor hb7 hp7 hp8 hS8 e5 f5 hS;refine wpAnyH_done (by kernel_rfl) ?_ _
 go_wp2_with fail
 go_end0
 refine⟨rfl,?_⟩
 rw[HF.out,HKM.out];have e:s.now.map (fun x=>(x.1,x.2++[key]))=some (c',l'++[key]):=by rw[HHS.out];rfl
 show Br p w col { s with tx:=m,at_:=(a':Int),now:=s.now.map fun x=>(x.1,x.2++[key]) } _
 rw[e];exact HFin.out):p:=h
theorem yB (h:p:=by
 first
  |(
   guard_hyp N1
   have HB:Hid (Bi w (some (ad.add h1)) (n-h1) (c-h1) (l.drop h1)):=A4 (hl.back (k:=h1) (by omega)))
  |(
   have hn1:n=h1:=by omega
   have HB:Hid (Bi w (some ad) 0 0 (l.drop h1)):=A4 (by
    have:l.drop h1=[]:=List.drop_eq_nil_of_le (by rw[HLEN.out];omega)
    rw[this];exact⟨rfl,Nat.le_refl _,Nat.zero_le _,fun h=>absurd h (by omega)⟩)
   have HFB:Hid (h≤f∧0≤f∧h≤4096∧0≤4096):=A4 (by omega))
 have HC1:Hid (∀(w1:World) (A':Option Addr) (n' c':Nat),(A'=some ad∧n'=h∧c'=c)→Al w w1→Calls Tryz.prog 102 #[.slice A' n' c'] w1 fun e w'=>∃v,e=.returned (.pointer v)∧Bp w' v (Tr.buildF f (l.take h))∧Al w1 w'):=
  A4 (fun w1 A' n' c' hq he=>by
   rw[hq.1,hq.2.1,hq.2.2];exact IH.out (l.take h) _ _ _ w1 (HF.out.ext he) HFB.out.1 HFB.out.2.2.1)
 first
  |(
   guard_hyp N1
   have HC2:Hid (∀(w1:World) (A':Option Addr) (n' c':Nat),(A'=some (ad.add h1)∧n'=n-h1∧c'=c-h1)→Al w w1→Calls Tryz.prog 102 #[.slice A' n' c'] w1 fun e w'=>∃v,e=.returned (.pointer v)∧Bp w' v (Tr.buildF f (l.drop h1))∧Al w1 w'):=
    A4 (fun w1 A' n' c' hq he=>by
     rw[hq.1,hq.2.1,hq.2.2];exact IH.out (l.drop h1) _ _ _ w1 (HB.out.ext he) HFB.out.2.1 HFB.out.2.2.2))
  |(
   have HC2:Hid (∀(w1:World) (A':Option Addr) (n' c':Nat),(A'=(some ad)∧n'=0∧c'=0)→Al w w1→Calls Tryz.prog 102 #[.slice A' n' c'] w1 fun e w'=>∃v,e=.returned (.pointer v)∧Bp w' v (Tr.buildF f (l.drop h1))∧Al w1 w'):=
    A4 (fun w1 A' n' c' hq he=>by
     rw[hq.1,hq.2.1,hq.2.2];exact IH.out (l.drop h1) _ _ _ w1 (HB.out.ext he) HFB.out.2.1 HFB.out.2.2.2)
   subst hcc;subst hn1)
 clear hc hh hh1 HF HB IH HFB HLEN hl;have hall:=And.intro HSZ (And.intro HC1 HC2);clear HSZ HC1 HC2
 revert hall
 generalize Tr.buildF f (l.take h)=T1
 first
  |(
   guard_hyp N1
   generalize Tr.buildF f (l.drop h1)=T2)
  |(
   generalize Tr.buildF f (l.drop n)=T2)
 rintro⟨HSZ,HC1,HC2⟩;go_enter Tryz.func102,Tryz.ntmps102
 go_wp2_with fail
 go_region_held3 (fun w'=>w'.cell? (ad.add h)=some (.int .i64 (gI l h))) (first|go_keep|(exact Al.cell (by assumption) (by assumption))) (first
  |(
   go_at_call 102
   first
    |(
     refine(HC1.out _ _ _ _ ⟨by with_reducible rfl,by with_reducible rfl,by with_reducible rfl⟩ (by first|exact hxd|exact hxd.trans (by assumption))).mono ?_
     rintro e wa ⟨v1,rfl,hv1,hea⟩)
    |(
     refine(HC2.out _ _ _ _ ⟨by with_reducible rfl,by with_reducible rfl,by with_reducible rfl⟩ (by first|exact hxd|exact hxd.trans (by assumption))).mono ?_
     rintro e wb ⟨v2,rfl,hv2,heb⟩))
  |(
   go_at_call 116
   refine(rH (Bp.ext heb hv1) hv2 HSZ.out).mono ?_
   rintro e wc ⟨v3,rfl,hv3,hec⟩))
 all_goals
  go_wp2_with fail
  go_ret
  exact⟨_,rfl,hv3,hxd.trans (hea.trans (heb.trans hec))⟩):p:=h
theorem yJ (h:p:=by
 unfold maxLen at hcm;have hm:(k:Int)≤max 0 ((n:Int)-1):=by omega
 first
  |(
   guard_hyp N1
   rcases hkey with rfl|rfl|rfl
   all_goals
    go_enter Tryz.func123,Tryz.ntmps123
    go_wp2_with fail)
  |(
   guard_hyp N2
   rcases hkey with rfl|rfl|rfl|rfl|rfl|rfl
   all_goals
    first
     |rw[show tE 40=40 by decide]at HB
     |rw[show tE 41=40 by decide]at HB
     |rw[show tE 91=91 by decide]at HB
     |rw[show tE 93=91 by decide]at HB
     |rw[show tE 123=123 by decide]at HB
     |rw[show tE 125=123 by decide]at HB
    go_enter Tryz.func123,Tryz.ntmps123
    go_wp2_with fail)
  |(
   rcases hkey with⟨rfl,rfl⟩|⟨rfl,rfl⟩
   all_goals
    go_enter Tryz.func123,Tryz.ntmps123
    go_wp2_with fail)
 all_goals
  refine HB.out.mono ?_
  rintro e w1 ⟨⟨x,y,er,hf,rfl⟩,he1⟩;have HF:=A4 hf;clear hf HB;have hb0:=(An.new w 213 #[.int .i64 0,.int .i64 0]).ext he1;have he:=(Al.alloc w (.cells #[.int .i64 0,.int .i64 0] 213)).trans he1;have f0:=hb0.frozen 0;have f1:=hb0.frozen 1;have c4:=hb0.cell 0;have c5:=hb0.cell 1;simp only[List.getElem?_toArray,List.getElem?_cons_zero,List.getElem?_cons_succ]at c4 c5;go_wp2_with fail
  have hbf:An ((w1.setCell ⟨w.heap.size,0,none⟩ (.int .i64 x)).setCell ⟨w.heap.size,1,none⟩ (.int .i64 y)) w.heap.size 213 #[.int .i64 x,.int .i64 y]:=by
   simpa using(hb0.set_ 0 (.int .i64 x)).set_ 1 (.int .i64 y)
  have hef:=(he.setCell (p:=⟨w.heap.size,0,none⟩) (by simp) (.int .i64 x)).setCell (p:=⟨w.heap.size,1,none⟩) (by simp) (.int .i64 y)
  clear c4 c5 f0 f1 hb0
  revert hbf hef
  generalize (w1.setCell ⟨w.heap.size,0,none⟩ (.int .i64 x)).setCell ⟨w.heap.size,1,none⟩ (.int .i64 y)=w2;intro hbf hef;have c6:=hbf.cell 0;have c7:=hbf.cell 1;simp only[List.getElem?_toArray,List.getElem?_cons_zero,List.getElem?_cons_succ]at c6 c7;clear hbf;go_quiet (fail)
  go_wp2_with fail
  go_ret3
  exact⟨⟨x,y,er,HF.out,rfl⟩,hef.to_drewN _⟩):p:=h
theorem zR (h:p:=by
 obtain⟨i0,hi,hz0,hz1,hz2⟩:=info_parts Bz;have hln:=hl.len;have hnc:=hl.ncap;have x0:w.cell? ⟨g,0,none⟩=some (.slice A n c):=(hb.cell 0).trans h0;have x1:w.cell? ⟨g,1,none⟩=some (.int .i64 (a:Int)):=(hb.cell 1).trans h1;have HB:=A4 hb;have HL:=A4 hl;have H0:=A4 h0;have H1:=A4 h1;have H34:=A4 h34;have H66:=A4 h66;have Hln:=A4 hln;have hac:a≤c:=by omega
 have hakc:a+k≤c:=by omega
 have hwr:IntKind.i64.wrap ((a:Int)+(k:Int))=(a:Int)+(k:Int):=IntWalk.i64_in _ (by omega)
 obtain⟨T2,hT2⟩:∃T2,(if c=a then A else Option.map (fun x=>x.add a) A)=T2:=⟨_,rfl⟩
 obtain⟨S,hS⟩:∃S,(l.drop a).take k=S:=⟨_,rfl⟩;have hak0:a+k-a=k:=by omega
 have HS:Hid (Bi w T2 k (c-a) S):=A4 (by
  have h:=hl.cut (k:=a) (m:=a+k) (by omega) hak
  rw[hT2,hak0,hS]at h;exact h)
 have HSd:=A4 hS;have hSl:S.length=k:=by rw[←hS];simp;omega
 first
  |(
   guard_hyp N1
   obtain⟨M,hM⟩:∃M,S.map (fun _=>k5)=M:=⟨_,rfl⟩)
  |(
   obtain⟨M,hM⟩:∃M,S.map Lv=M:=⟨_,rfl⟩)
 have HMd:=A4 hM;have HMl:Hid (M.length=k):=A4 (by rw[←hM];simpa using hSl)
 first
  |(
   guard_hyp N1
   have HMs:Hid (∀i,i<k→M.take (i+1)=M.take i++[k5]):=A4 (fun i hi=>by
    rw[←hM,List.take_succ_eq_append_getElem (by simp;omega)]
    simp)
   have HSl:=A4 hSl)
  |(
   have HMs:Hid (∀i,i<k→M.take (i+1)=M.take i++[Lv (gI S i)]):=A4 (fun i hi=>by
    rw[←hM,List.take_succ_eq_append_getElem (by simp;omega)]
    simp[gI,hSl,hi]))
 clear hM hSl
 first
  |(
   guard_hyp N1
   have H33:=A4 h33;have HBX:=A4 hbx;clear hb h0 h1 h34 h66 hl hln hS h33 hbx)
  |(
   clear hb h0 h1 h34 h66 hl hln hS)
 go_enter Tryz.func131,Tryz.ntmps131
 go_wp2_with fail
 go_quiet (fail)
 clear hT2 hak0 hwr x0 x1;have HX0:=A4 (Al.drewN w nq);have HO0:Hid (Av (w.drewN nq) w.heap.size none 0 0 (M.take 0)):=A4 (Av.nil _ _);generalize w.drewN nq=wz at*
 try simp only[Nat.add_sub_cancel_left]
 go_wp2_with fail
 go_loopw [6,28] (fun s6 s28 wx=>∃(i d:Nat) (B:Option Addr),i≤k∧s28=.int .i64 i∧s6=.slice B i d∧Hid (Av wx w.heap.size B i d (M.take i))∧Hid (Al w wx)) (fun _ s28 _=>k-(intOf s28).toNat)
 case atStart=>exact⟨0,0,none,by omega,rfl,rfl,HO0,HX0⟩
 first
  |(
   guard_hyp N1
   case round=>
    clear HX0 HO0;obtain⟨i,d,B,hik,rfl,rfl,HO,HX⟩:=hrel;by_cases hlt:i<k
    ·obtain⟨ad,e,hc⟩:=(HS.out.ext HX.out).at_ (k:=i) hlt
     subst e;have hci:=hc i hlt;have HT:=A4 (wK (HB.out.ext HX.out) H33.out (HBX.out.ext HX.out) (gI S i));have HXs:=HX.out.hsize;have hown:=HO.out;have hxx:=HX.out;clear hc;go_wp2_with fail
     refine HT.out.mono ?_
     rintro e w' ⟨rfl,rfl⟩;clear HT;go_wp2_with (at_builtin;refine Ci rfl (.tmp 32) (.tmp 36) 27 rfl w w.heap.size 3 i0 (.int .i64 0) 1 8 Tryz.underlying27 hi hz0 hz1 hz2 rfl (by decide) B i d _ rfl hown #[.int .i64 k5] rfl (by simp[Value.oneCell']) rfl (by unfold maxLen;omega) (by omega) hxx (Nat.le_refl _) HXs ?_)
     exact I22
    ·obtain rfl:i=k:=by omega
     have hMt:M.take i=M:=List.take_of_length_le (by rw[HMl.out];exact Nat.le_refl _)
     rw[hMt]at HO;clear hMt;have x0:wr.cell? ⟨g,0,none⟩=some (.slice A n c):=HX.out.cell ((HB.out.cell 0).trans H0.out);have x1:wr.cell? ⟨g,1,none⟩=some (.int .i64 (a:Int)):=HX.out.cell ((HB.out.cell 1).trans H1.out);have hwr:IntKind.i64.wrap ((a:Int)+(i:Int))=(a:Int)+(i:Int):=IntWalk.i64_in _ (by omega)
     have hput:=(Tu (f:=a) (t:=a+i) ((HB.out.ext HX.out).ext (Al.drew wr)) H0.out H34.out H66.out ((HL.out.ext HX.out).ext (Al.drew wr)) (HO.out.ints.ext (Al.drew wr)) (Ay.nocap HO.out) (by omega) hak hn (by omega))
     rw[show((a+i:Nat):Int)=(a:Int)+(i:Int)by omega]at hput
     have HP:=A4 hput;clear hput;clear HO HS;go_upto_region 6 with fail
     go_region_law (first
      |(
       refine Bs rfl 136 #[.pointer (some ⟨g,0,none⟩),.int .i64 (a:Int),.int .i64 ((a:Int)+(i:Int)),.slice B i d] rfl (by kernel_rfl) (fun v w'=>Rv wr.drew g cs l (l.take a++M++l.drop (a+i)) w') (HP.out.mono fun e w' ⟨⟨u,h1⟩,h2⟩=>⟨u,h1,h2⟩) ?_
       rintro v w3 hput))
     all_goals
      have HPF:Hid (Rv w g cs l (Pq l a i k5) w3):=A4 (by
       obtain⟨h1,B',q',b',O',k',z',e',h2,h3,h4,h5,h6⟩:=hput;have he:l.take a++M++l.drop (a+i)=Pq l a i k5:=by
        unfold Pq;have hm:=HMd.out;rw[List.map_const']at hm;rw[←hm,HSl.out]
       rw[he]at h3 h5;have hle:w.heap.size≤wr.drew.heap.size:=HX.out.hsize;exact⟨Co (Ev (HX.out.trans (Al.drew wr)) (some g)) h1,B',q',b',O',k',z',e',h2,Ay.lower h3 hle,h4.lower hle,h5,h6⟩)
      clear hput;go_wp2_with fail
      go_end0
      exact⟨⟨_,rfl⟩,HPF.out⟩)
  |(
   case round=>
    clear HX0 HO0;obtain⟨i,d,B,hik,rfl,rfl,HO,HX⟩:=hrel;by_cases hlt:i<k
    ·obtain⟨ad,e,hc⟩:=(HS.out.ext HX.out).at_ (k:=i) hlt
     subst e;have hci:=hc i hlt;have HT:=A4 (fR (gI S i) wr);have HXs:=HX.out.hsize;have hown:=HO.out;have hxx:=HX.out;clear hc;go_wp2_with fail
     refine HT.out.mono ?_
     rintro e w' ⟨rfl,rfl⟩;clear HT;go_wp2_with (at_builtin;refine Ci rfl (.tmp 32) (.tmp 36) 27 rfl w w.heap.size 3 i0 (.int .i64 0) 1 8 Tryz.underlying27 hi hz0 hz1 hz2 rfl (by decide) B i d _ rfl hown #[.int .i64 (Lv (gI S i))] rfl (by simp[Value.oneCell']) rfl (by unfold maxLen;omega) (by omega) hxx (Nat.le_refl _) HXs ?_)
     exact I22
    ·obtain rfl:i=k:=by omega
     have hMt:M.take i=M:=List.take_of_length_le (by rw[HMl.out];exact Nat.le_refl _)
     rw[hMt]at HO;clear hMt;have x0:wr.cell? ⟨g,0,none⟩=some (.slice A n c):=HX.out.cell ((HB.out.cell 0).trans H0.out);have x1:wr.cell? ⟨g,1,none⟩=some (.int .i64 (a:Int)):=HX.out.cell ((HB.out.cell 1).trans H1.out);have hwr:IntKind.i64.wrap ((a:Int)+(i:Int))=(a:Int)+(i:Int):=IntWalk.i64_in _ (by omega)
     have hput:=(Tu (f:=a) (t:=a+i) ((HB.out.ext HX.out).ext (Al.drew wr)) H0.out H34.out H66.out ((HL.out.ext HX.out).ext (Al.drew wr)) (HO.out.ints.ext (Al.drew wr)) (Ay.nocap HO.out) (by omega) hak hn (by omega))
     rw[show((a+i:Nat):Int)=(a:Int)+(i:Int)by omega]at hput
     have HP:=A4 hput;clear hput;clear HO HS;go_upto_region 6 with fail
     go_region_law (first
      |(
       refine Bs rfl 136 #[.pointer (some ⟨g,0,none⟩),.int .i64 (a:Int),.int .i64 ((a:Int)+(i:Int)),.slice B i d] rfl (by kernel_rfl) (fun v w'=>Rv wr.drew g cs l (l.take a++M++l.drop (a+i)) w') (HP.out.mono fun e w' ⟨⟨u,h1⟩,h2⟩=>⟨u,h1,h2⟩) ?_
       rintro v w3 hput))
     all_goals
      have HPF:Hid (Rv w g cs l (Pu l a i) w3):=A4 (by
       obtain⟨h1,B',q',b',O',k',z',e',h2,h3,h4,h5,h6⟩:=hput;have he:l.take a++M++l.drop (a+i)=Pu l a i:=by unfold Pu;rw[HSd.out,HMd.out]
       rw[he]at h3 h5;have hle:w.heap.size≤wr.drew.heap.size:=HX.out.hsize;exact⟨Co (Ev (HX.out.trans (Al.drew wr)) (some g)) h1,B',q',b',O',k',z',e',h2,Ay.lower h3 hle,h4.lower hle,h5,h6⟩)
      clear hput;go_wp2_with fail
      go_end0
      exact⟨⟨_,rfl⟩,HPF.out⟩)):p:=h
theorem zQ (h:p:=by
 first
  |(
   guard_hyp N1
   have b1:((k:Int)==(n:Int))=false:=by simp;omega
   have HE:Hid (¬(k=n∧k=q)):=A4 (fun h=>hkn h.1)
   clear hkn)
  |(
   have b1:((k:Int)==(n:Int))=true:=by simp;omega
   have b2:((k:Int)==(q:Int))=false:=by simp;omega
   have HE:Hid (¬(k=n∧k=q)):=A4 (fun h=>hkq h.2)
   clear hkn hkq)
 obtain⟨v,hv⟩:∃v,v=q-j:=⟨_,rfl⟩;obtain⟨u,hu⟩:∃u,u=n-j:=⟨_,rfl⟩;have hkv:k≤v:=by omega
 have hvq:v≤q:=by omega
 have hvj:(q:Int)-(j:Int)=(v:Int):=by omega
 have huj:(n:Int)-(j:Int)=(u:Int):=by omega
 have hcut2:=To B q d k v hkv (by omega)
 have HCL:=A4 (Cy ((hm.cutA hkv hvq).ext hxd) (Wk HBN.out) (by omega))
 have HV:=A4 (And.intro hv hu);clear hv hu;go_wp2_with fail
 refine HCL.out.mono ?_
 rintro e' w3 ⟨C,dc,rfl,hoc,hcn,he3⟩;have hx3:=hxd.trans he3;have hx4:=hx3.to_alloc (.cells #[.int .i64 k,.int .i64 u,.slice C (v-k) dc] 241);have hbk:=An.new w3 241 #[.int .i64 k,.int .i64 u,.slice C (v-k) dc];have hed:=sK (base:=w.heap.size) hbk hx3.hsize (Ay.lower (Av.ext hoc (Al.alloc w3 (.cells #[.int .i64 k,.int .i64 u,.slice C (v-k) dc] 241))) hxd.hsize) hcn (fun k' hk'=>by have:=(Ay.blk hoc k' hk').2;omega)
 have HED:Hid (Dq (w3.alloc (.cells #[.int .i64 k,.int .i64 u,.slice C (v-k) dc] 241)) w.heap.size (.slice (some ⟨w3.heap.size,0,none⟩) 1 1) [Pk l m k j]):=A4 (by
  unfold Pk;rw[hln.out,hmn.out,←HV.out.1,←HV.out.2];exact hed)
 clear HCL hoc hcn hbk hed he3 hcut2 hvj huj;go_wp2_with fail
 go_ret2
 exact⟨⟨k,j,HB.out,.inr ⟨HE.out,w3.heap.size,rfl,HED.out⟩⟩,hx4⟩):p:=h
theorem zP (h:p:=by
 have d1:=he.cell (HC.out t hlt);by_cases heq:Bf (gI l t) big=Bf (gI l k) big
 ·have b1:(Bf (gI l t) big==Bf (gI l k) big)=true:=by simpa using heq
  have HQ:Hid (Au l big t=Au l big k):=A4 (by rw[HIN.out t hlt,hkk.out];exact heq)
  clear heq;go_wp2_with fail
  refine(Gx _ _ _).mono ?_
  rintro e w2 ⟨rfl,rfl⟩;go_wp2_with fail
  first
   |(
    guard_hyp N1
    have hb3:An (wr.setCell ⟨w.heap.size+1,1,none⟩ (.int .i64 ((t:Int)+1))) (w.heap.size+1) 213 #[.int .i64 ((g+1:Nat):Int),.int .i64 ((t+1:Nat):Int)]:=by
     simpa using hb2.set_ 1 (.int .i64 ((t:Int)+1)))
   |(
    have hb3:An (wr.setCell ⟨w.heap.size+1,1,none⟩ (.int .i64 ((t:Int)+1))) (w.heap.size+1) 213 #[.int .i64 ((0:Nat):Int),.int .i64 ((t+1:Nat):Int)]:=by
     simpa using hb2.set_ 1 (.int .i64 ((t:Int)+1)))
  have c2:=hb3.cell 1;simp only[List.getElem?_toArray,List.getElem?_cons_zero,List.getElem?_cons_succ]at c2;refine⟨⟨t+1,by omega,by omega,fun x h1 h2=>?_,hb1.keepCell2 (by simp) _,hb3,he.setCell (by simp) _⟩,?_⟩
  ·rcases Nat.lt_or_ge x t with h3|h3
   ·exact hall2.out x h1 h3
   ·obtain rfl:x=t:=by omega
    exact HQ.out
  ·rw[Mr c2,HM.out];omega
 ·have b1:(Bf (gI l t) big==Bf (gI l k) big)=false:=by simpa using heq
  have HQ:Hid (Au l big t≠Au l big k):=A4 (by rw[HIN.out t hlt,hkk.out];exact heq)
  clear heq;have HR:Hid (Eg l big (Au l big k) k=t):=A4 (Pz (by rw[hkk.out];exact(Le _ _).1) ht1 hall2.out HQ.out)
  have f2:=hb1.frozen 0;have f3:=hb1.frozen 1;have c4:=hb1.cell 0;have c5:=hb1.cell 1;simp only[List.getElem?_toArray,List.getElem?_cons_zero,List.getElem?_cons_succ]at c4 c5;go_wp2_with fail
  refine(Gx _ _ _).mono ?_
  rintro e w2 ⟨rfl,rfl⟩;go_wp2_with fail
  first
   |(
    guard_hyp N1
    have hbf:An ((wr.setCell ⟨w.heap.size,0,none⟩ (.int .i64 ((g:Int)+1))).setCell ⟨w.heap.size,1,none⟩ (.int .i64 t)) w.heap.size 213 #[.int .i64 ((g:Int)+1),.int .i64 t]:=by
     simpa using(hb1.set_ 0 (.int .i64 ((g:Int)+1))).set_ 1 (.int .i64 t))
   |(
    have hbf:An ((wr.setCell ⟨w.heap.size,0,none⟩ (.int .i64 0)).setCell ⟨w.heap.size,1,none⟩ (.int .i64 t)) w.heap.size 213 #[.int .i64 0,.int .i64 t]:=by
     simpa using(hb1.set_ 0 (.int .i64 0)).set_ 1 (.int .i64 t))
  have c6:=hbf.cell 0;have c7:=hbf.cell 1;simp only[List.getElem?_toArray,List.getElem?_cons_zero,List.getElem?_cons_succ]at c6 c7;clear c4 c5 f2 f3 c0 c1 hbf;rw[HFL.out,HR.out];refine bodyPost_ret (by simp[results,Tryz.results147,go_sem,c6,c7];try rfl) rfl ?_
  exact⟨rfl,(he.setCell (by simp) _).setCell (by simp) _⟩):p:=h
theorem Nj (h:p:=by
 unfold maxLen at hcm;have hx0:Al w ((w.alloc (.cells #[.slice A n c,.int .i64 k,.int .i64 g,.bool op] 219)).alloc (.cells #[.int .i64 0,.bool false] 221)):=(Al.alloc _ _).to_alloc _;have hb2:=Vo w (.slice A n c) (.int .i64 k) (.int .i64 g) (.bool op);have hb1:=nV w (.slice A n c) (.int .i64 k) (.int .i64 g) (.bool op)
 first
  |(
   (first|guard_hyp N1|guard_hyp N4|guard_hyp N6)
   have HB:=A4 hb2;have HE:=A4 hx0;have c0:=hb2.cell 0;have c1:=hb2.cell 1;have f0:=hb2.frozen 0;have f1:=hb2.frozen 1;have d0:=hb1.cell 0;have d1:=hb1.cell 1;have d2:=hb1.cell 2;have d3:=hb1.cell 3;simp only[List.getElem?_toArray,List.getElem?_cons_zero,List.getElem?_cons_succ]at c0 c1 d0 d1 d2 d3;clear hb2 hb1 hx0;go_enter Tryz.func143,Tryz.ntmps143
   go_wp2_with fail
   all_goals
    obtain⟨c6,c7,hx,hx1,hx2⟩:=D0 HB.out HE.out (by simp)
    refine bodyPost_ret (by simp[results,Tryz.results143,go_sem,c6,c7];try rfl) rfl ?_
    refine⟨Nc (by omega),by first|exact hx _ _|exact HE.out|exact hx1 _|exact hx2 _|exact(Al.alloc _ _).to_alloc _⟩)
  |(
   (first|guard_hyp N12|guard_hyp N14|guard_hyp N16)
   have d0:=hb1.cell 0;have d1:=hb1.cell 1;simp only[List.getElem?_toArray,List.getElem?_cons_zero,List.getElem?_cons_succ]at d0 d1;go_enter Tryz.func143,Tryz.ntmps143
   go_wp2_with fail
   refine(H.out _ hx0).mono ?_
   rintro e w1 ⟨rfl,he1⟩;clear d0 d1;have hq2:=hb2.ext he1;have hq1:=hb1.ext he1;have HB:=A4 hq2;have HE:=A4 (hx0.trans he1);have c0:=hq2.cell 0;have c1:=hq2.cell 1;have f0:=hq2.frozen 0;have f1:=hq2.frozen 1;have d0:=hq1.cell 0;have d1:=hq1.cell 1;have d2:=hq1.cell 2;have d3:=hq1.cell 3;simp only[List.getElem?_toArray,List.getElem?_cons_zero,List.getElem?_cons_succ]at c0 c1 d0 d1 d2 d3;clear hb2 hb1 hx0 he1 hq1 hq2;go_wp2_with fail
   all_goals
    obtain⟨c6,c7,hx,hx1,hx2⟩:=D0 HB.out HE.out (by simp)
    refine bodyPost_ret (by simp[results,Tryz.results143,go_sem,c6,c7];try rfl) rfl ?_
    refine⟨rfl,by first|exact hx _ _|exact HE.out|exact hx1 _|exact hx2 _|exact(Al.alloc _ _).to_alloc _⟩)
  |(
   (first|guard_hyp N17|guard_hyp N18|guard_hyp N19|guard_hyp N20|guard_hyp N21)
   rcases o with _|⟨a,i⟩
   ·have d0:=hb1.cell 0
    have d1:=hb1.cell 1;simp only[List.getElem?_toArray,List.getElem?_cons_zero,List.getElem?_cons_succ]at d0 d1;go_enter Tryz.func143,Tryz.ntmps143
    go_wp2_with fail
    refine(H.out _ hx0).mono ?_
    rintro e w1 ⟨he,he1⟩;rw[Lh]at he;subst he;clear d0 d1;have hq2:=hb2.ext he1;have hq1:=hb1.ext he1;have HB:=A4 hq2;have HE:=A4 (hx0.trans he1);have c0:=hq2.cell 0;have c1:=hq2.cell 1;have f0:=hq2.frozen 0;have f1:=hq2.frozen 1;have d0:=hq1.cell 0;have d1:=hq1.cell 1;have d2:=hq1.cell 2;have d3:=hq1.cell 3;simp only[List.getElem?_toArray,List.getElem?_cons_zero,List.getElem?_cons_succ]at c0 c1 d0 d1 d2 d3;clear hb2 hb1 hx0 he1 hq1 hq2;go_wp2_with fail
    all_goals
     obtain⟨c6,c7,hx,hx1,hx2⟩:=D0 HB.out HE.out (by simp)
     refine bodyPost_ret (by simp[results,Tryz.results143,go_sem,c6,c7];try rfl) rfl ?_
     refine⟨rfl,by first|exact hx _ _|exact HE.out|exact hx1 _|exact hx2 _|exact(Al.alloc _ _).to_alloc _⟩
   ·have d0:=hb1.cell 0
    have d1:=hb1.cell 1;simp only[List.getElem?_toArray,List.getElem?_cons_zero,List.getElem?_cons_succ]at d0 d1;go_enter Tryz.func143,Tryz.ntmps143
    go_wp2_with fail
    refine(H.out _ hx0).mono ?_
    rintro e w1 ⟨he,he1⟩;rw[Rc]at he;subst he;clear d0 d1;have hq2:=hb2.ext he1;have hq1:=hb1.ext he1;have HB:=A4 hq2;have HE:=A4 (hx0.trans he1);have c0:=hq2.cell 0;have c1:=hq2.cell 1;have f0:=hq2.frozen 0;have f1:=hq2.frozen 1;have d0:=hq1.cell 0;have d1:=hq1.cell 1;have d2:=hq1.cell 2;have d3:=hq1.cell 3;simp only[List.getElem?_toArray,List.getElem?_cons_zero,List.getElem?_cons_succ]at c0 c1 d0 d1 d2 d3;clear hb2 hb1 hx0 he1 hq1 hq2;go_wp2_with fail
    all_goals
     obtain⟨c6,c7,hx,hx1,hx2⟩:=D0 HB.out HE.out (by simp)
     refine bodyPost_ret (by simp[results,Tryz.results143,go_sem,c6,c7];try rfl) rfl ?_
     refine⟨rfl,by first|exact hx _ _|exact HE.out|exact hx1 _|exact hx2 _|exact(Al.alloc _ _).to_alloc _⟩)
  |(
   guard_hyp N22
   have d0:=hb1.cell 0;have d1:=hb1.cell 1;simp only[List.getElem?_toArray,List.getElem?_cons_zero,List.getElem?_cons_succ]at d0 d1;go_enter Tryz.func143,Tryz.ntmps143
   go_wp2_with fail
   refine(H.out _ hx0).mono ?_
   rintro e w1 ⟨⟨o,hR,he⟩,he1⟩;have HR:=A4 hR;clear hR;rcases o with _|⟨a,i⟩
   ·rw[Lh]at he
    subst he;clear d0 d1;have hq2:=hb2.ext he1;have hq1:=hb1.ext he1;have HB:=A4 hq2;have HE:=A4 (hx0.trans he1);have c0:=hq2.cell 0;have c1:=hq2.cell 1;have f0:=hq2.frozen 0;have f1:=hq2.frozen 1;have d0:=hq1.cell 0;have d1:=hq1.cell 1;have d2:=hq1.cell 2;have d3:=hq1.cell 3;simp only[List.getElem?_toArray,List.getElem?_cons_zero,List.getElem?_cons_succ]at c0 c1 d0 d1 d2 d3;clear hb2 hb1 hx0 he1 hq1 hq2;go_wp2_with fail
    all_goals
     obtain⟨c6,c7,hx,hx1,hx2⟩:=D0 HB.out HE.out (by simp)
     refine bodyPost_ret (by simp[results,Tryz.results143,go_sem,c6,c7];try rfl) rfl ?_
     refine⟨⟨_,HR.out,rfl⟩,by first|exact hx _ _|exact HE.out|exact hx1 _|exact hx2 _|exact(Al.alloc _ _).to_alloc _⟩
   ·rw[Rc]at he
    subst he;clear d0 d1;have hq2:=hb2.ext he1;have hq1:=hb1.ext he1;have HB:=A4 hq2;have HE:=A4 (hx0.trans he1);have c0:=hq2.cell 0;have c1:=hq2.cell 1;have f0:=hq2.frozen 0;have f1:=hq2.frozen 1;have d0:=hq1.cell 0;have d1:=hq1.cell 1;have d2:=hq1.cell 2;have d3:=hq1.cell 3;simp only[List.getElem?_toArray,List.getElem?_cons_zero,List.getElem?_cons_succ]at c0 c1 d0 d1 d2 d3;clear hb2 hb1 hx0 he1 hq1 hq2;go_wp2_with fail
    all_goals
     obtain⟨c6,c7,hx,hx1,hx2⟩:=D0 HB.out HE.out (by simp)
     refine bodyPost_ret (by simp[results,Tryz.results143,go_sem,c6,c7];try rfl) rfl ?_
     refine⟨⟨_,HR.out,rfl⟩,by first|exact hx _ _|exact HE.out|exact hx1 _|exact hx2 _|exact(Al.alloc _ _).to_alloc _⟩)
  |(
   (first|guard_hyp N23|guard_hyp N25|guard_hyp N27|guard_hyp N29)
   go_enter Tryz.func142,Tryz.ntmps142
   go_wp2_with fail
   refine(H.out _ hx0).mono ?_
   rintro e w1 ⟨he,he1⟩;rw[iD]at he;subst he;have hq2:=hb2.ext he1;have hq1:=hb1.ext he1;have HB:=A4 hq2;have HE:=A4 (hx0.trans he1);have c0:=hq2.cell 0;have c1:=hq2.cell 1;have f0:=hq2.frozen 0;have f1:=hq2.frozen 1;have d0:=hq1.cell 0;have d1:=hq1.cell 1;have d2:=hq1.cell 2;have d3:=hq1.cell 3;simp only[List.getElem?_toArray,List.getElem?_cons_zero,List.getElem?_cons_succ]at c0 c1 d0 d1 d2 d3;clear hb2 hb1 hx0 he1 hq1 hq2;go_wp2_with fail
   all_goals
    obtain⟨c6,c7,hx,hx1,hx2⟩:=D0 HB.out HE.out (by simp)
    refine bodyPost_ret (by simp[results,Tryz.results142,go_sem,c6,c7];try rfl) rfl ?_
    refine⟨rfl,by first|exact hx _ _|exact HE.out|exact hx1 _|exact hx2 _|exact(Al.alloc _ _).to_alloc _⟩)
  |(
   (first|guard_hyp N24|guard_hyp N26|guard_hyp N28|guard_hyp N30)
   go_enter Tryz.func142,Tryz.ntmps142
   go_wp2_with fail
   refine(H.out _ hx0).mono ?_
   rintro e w1 ⟨he,he1⟩;rw[iC]at he;subst he;have hq2:=hb2.ext he1;have hq1:=hb1.ext he1;have HB:=A4 hq2;have HE:=A4 (hx0.trans he1);have c0:=hq2.cell 0;have c1:=hq2.cell 1;have f0:=hq2.frozen 0;have f1:=hq2.frozen 1;have d0:=hq1.cell 0;have d1:=hq1.cell 1;have d2:=hq1.cell 2;have d3:=hq1.cell 3;simp only[List.getElem?_toArray,List.getElem?_cons_zero,List.getElem?_cons_succ]at c0 c1 d0 d1 d2 d3;clear hb2 hb1 hx0 he1 hq1 hq2;go_wp2_with fail
   all_goals
    obtain⟨c6,c7,hx,hx1,hx2⟩:=D0 HB.out HE.out (by simp)
    refine bodyPost_ret (by simp[results,Tryz.results142,go_sem,c6,c7];try rfl) rfl ?_
    refine⟨Nc (by omega),by first|exact hx _ _|exact HE.out|exact hx1 _|exact hx2 _|exact(Al.alloc _ _).to_alloc _⟩)
  |(
   guard_hyp N31
   cases op
   ·by_cases hz:min X (n-1)=k
    ·have HZ:=A4 hz
     have b1:decide (min (X:Int) ((n:Int)-1)=(k:Int))=true:=by simp;omega
     have b2:(min (X:Int) ((n:Int)-1)==(k:Int))=true:=by simp;omega
     rw[if_neg (by simp),if_pos hz]
     clear hz;go_enter Tryz.func153,Tryz.ntmps153
     go_wp2_with fail
     refine(H.out _ hx0).mono ?_
     rintro e w1 ⟨rfl,he1⟩;have hq2:=hb2.ext he1;have hq1:=hb1.ext he1;have HB:=A4 hq2;have HE:=A4 (hx0.trans he1);have c0:=hq2.cell 0;have c1:=hq2.cell 1;have f0:=hq2.frozen 0;have f1:=hq2.frozen 1;have d0:=hq1.cell 0;have d1:=hq1.cell 1;have d2:=hq1.cell 2;have d3:=hq1.cell 3;simp only[List.getElem?_toArray,List.getElem?_cons_zero,List.getElem?_cons_succ]at c0 c1 d0 d1 d2 d3;clear hb2 hb1 hx0 he1 hq1 hq2;go_wp2_with fail
     all_goals first
      |(exfalso;have:=HZ.out;omega)
      |(
       obtain⟨c6,c7,hx,hx1,hx2⟩:=D0 HB.out HE.out (by simp)
       refine bodyPost_ret (by simp[results,Tryz.results153,go_sem,c6,c7];try rfl) rfl ?_
       refine⟨rfl,by first|exact hx _ _|exact HE.out|exact hx1 _|exact hx2 _⟩)
    ·have HZ:=A4 hz
     have b1:(min (X:Int) ((n:Int)-1)==(k:Int))=false:=by simp;omega
     rw[if_neg (by simp),if_neg hz]
     clear hz;go_enter Tryz.func153,Tryz.ntmps153
     go_wp2_with fail
     refine(H.out _ hx0).mono ?_
     rintro e w1 ⟨rfl,he1⟩;have hq2:=hb2.ext he1;have hq1:=hb1.ext he1;have HB:=A4 hq2;have HE:=A4 (hx0.trans he1);have c0:=hq2.cell 0;have c1:=hq2.cell 1;have f0:=hq2.frozen 0;have f1:=hq2.frozen 1;have d0:=hq1.cell 0;have d1:=hq1.cell 1;have d2:=hq1.cell 2;have d3:=hq1.cell 3;simp only[List.getElem?_toArray,List.getElem?_cons_zero,List.getElem?_cons_succ]at c0 c1 d0 d1 d2 d3;clear hb2 hb1 hx0 he1 hq1 hq2;go_wp2_with fail
     all_goals first
      |(exfalso;have:=HZ.out;omega)
      |(
       obtain⟨c6,c7,hx,hx1,hx2⟩:=D0 HB.out HE.out (by simp)
       refine bodyPost_ret (by simp[results,Tryz.results153,go_sem,c6,c7];try rfl) rfl ?_
       refine⟨Nc (by have:=HZ.out;omega),by first|exact hx _ _|exact HE.out|exact hx1 _|exact hx2 _⟩)
   ·rw[if_pos rfl]
    go_enter Tryz.func153,Tryz.ntmps153
    go_wp2_with fail
    refine(H.out _ hx0).mono ?_
    rintro e w1 ⟨rfl,he1⟩;have hq2:=hb2.ext he1;have hq1:=hb1.ext he1;have HB:=A4 hq2;have HE:=A4 (hx0.trans he1);have c0:=hq2.cell 0;have c1:=hq2.cell 1;have f0:=hq2.frozen 0;have f1:=hq2.frozen 1;have d0:=hq1.cell 0;have d1:=hq1.cell 1;have d2:=hq1.cell 2;have d3:=hq1.cell 3;simp only[List.getElem?_toArray,List.getElem?_cons_zero,List.getElem?_cons_succ]at c0 c1 d0 d1 d2 d3;clear hb2 hb1 hx0 he1 hq1 hq2;go_wp2_with fail
    all_goals
     obtain⟨c6,c7,hx,hx1,hx2⟩:=D0 HB.out HE.out (by simp)
     refine bodyPost_ret (by simp[results,Tryz.results153,go_sem,c6,c7];try rfl) rfl ?_
     refine⟨rfl,by first|exact hx _ _|exact HE.out|exact hx1 _|exact hx2 _⟩)
  |(
   guard_hyp N32
   cases op
   ·by_cases hz:X=k
    ·have HZ:=A4 hz
     rw[if_pos ⟨rfl,hz⟩];have b2:((X:Int)==(k:Int))=true:=by simp;omega
     exact I7
    ·have HZ:=A4 hz
     have b1:((X:Int)==(k:Int))=false:=by simp;omega
     rw[if_neg (by simp[hz])]
     exact I7
   ·rw[if_neg (by simp)]
    go_enter Tryz.func154,Tryz.ntmps154
    go_wp2_with fail
    refine(H.out _ hx0).mono ?_
    rintro e w1 ⟨rfl,he1⟩;have hq2:=hb2.ext he1;have hq1:=hb1.ext he1;have HB:=A4 hq2;have HE:=A4 (hx0.trans he1);have c0:=hq2.cell 0;have c1:=hq2.cell 1;have f0:=hq2.frozen 0;have f1:=hq2.frozen 1;have d0:=hq1.cell 0;have d1:=hq1.cell 1;have d2:=hq1.cell 2;have d3:=hq1.cell 3;simp only[List.getElem?_toArray,List.getElem?_cons_zero,List.getElem?_cons_succ]at c0 c1 d0 d1 d2 d3;clear hb2 hb1 hx0 he1 hq1 hq2;go_wp2_with fail
    all_goals
     obtain⟨c6,c7,hx,hx1,hx2⟩:=D0 HB.out HE.out (by simp)
     refine bodyPost_ret (by simp[results,Tryz.results154,go_sem,c6,c7];try rfl) rfl ?_
     refine⟨rfl,by first|exact hx _ _|exact HE.out|exact hx1 _|exact hx2 _⟩)
  |(
   have HB:=A4 hb2;have HE:=A4 hx0;have c0:=hb2.cell 0;have c1:=hb2.cell 1;have f0:=hb2.frozen 0;have f1:=hb2.frozen 1;have d0:=hb1.cell 0;have d1:=hb1.cell 1;have d2:=hb1.cell 2;have d3:=hb1.cell 3;simp only[List.getElem?_toArray,List.getElem?_cons_zero,List.getElem?_cons_succ]at c0 c1 d0 d1 d2 d3;clear hb2 hb1 hx0;go_enter Tryz.func143,Tryz.ntmps143
   go_wp2_with fail
   all_goals
    obtain⟨c6,c7,hx,hx1,hx2⟩:=D0 HB.out HE.out (by simp)
    refine bodyPost_ret (by simp[results,Tryz.results143,go_sem,c6,c7];try rfl) rfl ?_
    refine⟨rfl,by first|exact hx _ _|exact HE.out|exact hx1 _|exact hx2 _|exact(Al.alloc _ _).to_alloc _⟩)):p:=h
theorem wY (h:p:=by
 first
  |(
   guard_hyp N1
   have hx:=Al.alloc w (.cells #[.int .i64 k1,.int .i64 k2,.int .i64 0,.int .i64 85,.int .i64 k5] 87);have hc:=An.new w 87 #[.int .i64 k1,.int .i64 k2,.int .i64 0,.int .i64 85,.int .i64 k5])
  |(
   guard_hyp N2
   have hx:=Al.alloc w (.cells #[.int .i64 k1,.int .i64 k2,.int .i64 0,.int .i64 46,.int .i64 k5] 87);have hc:=An.new w 87 #[.int .i64 k1,.int .i64 k2,.int .i64 0,.int .i64 46,.int .i64 k5])
  |(
   guard_hyp N3
   have hx:=Al.alloc w (.cells #[.int .i64 k1,.int .i64 k2,.int .i64 k3,.int .i64 k4,.int .i64 k5] 87);have hc:=An.new w 87 #[.int .i64 k1,.int .i64 k2,.int .i64 k3,.int .i64 k4,.int .i64 k5])
  |(
   guard_hyp N4
   have hx:=Al.alloc w (.cells #[.int .i64 k1,.int .i64 k2,.int .i64 0,.int .i64 k4,.int .i64 k5] 87);have hc:=An.new w 87 #[.int .i64 k1,.int .i64 k2,.int .i64 0,.int .i64 k4,.int .i64 k5])
  |(
   have hx:=Al.alloc w (.cells #[.int .i64 k1,.int .i64 k2,.int .i64 0,.int .i64 117,.int .i64 k5] 87);have hc:=An.new w 87 #[.int .i64 k1,.int .i64 k2,.int .i64 0,.int .i64 117,.int .i64 k5])
 have HC:=A4 (Fs (h.ext hx).ses.dat.here.tr (by omega))
 have d0:=(h.ext hx).ses.blk.cell 0;have H:=A4 h
 first
  |(
   guard_hyp N1
   have HM:Hid (∀wq,Al w wq→_):=A4 fun wq he=>gG (h.ext he) (by omega) (by omega) hb (by omega))
  |(
   guard_hyp N2
   have HM:Hid (∀wq,Al w wq→_):=A4 fun wq he=>gM (h.ext he) wl hl hb hq hz hD hks hK)
  |(
   guard_hyp N3
   have HM:Hid (∀wq,Al w wq→_):=A4 fun wq he=>aR (c:=⟨k1,k2,k3,k4,k5⟩) (h.ext he) wl hl hb (by omega) (hz _)
   unfold Ma at HM)
  |(
   guard_hyp N4
   have HM:Hid (∀wq,Al w wq→_):=A4 fun wq he=>aR (c:=⟨k1,k2,0,k4,k5⟩) (h.ext he) wl hl hb (by omega) (hz _)
   unfold Ma at HM)
  |(
   have HM:Hid (∀wq,Al w wq→_):=A4 fun wq he=>sZ (h.ext he) hb (by omega))
 clear h;go_enter Tryz.func34,Tryz.ntmps34
 go_upto_region 1 with fail
 first
  |(
   guard_hyp N1
   generalize w.alloc (.cells #[.int .i64 k1,.int .i64 k2,.int .i64 0,.int .i64 85,.int .i64 k5] 87)=Wa at *)
  |(
   guard_hyp N2
   generalize w.alloc (.cells #[.int .i64 k1,.int .i64 k2,.int .i64 0,.int .i64 46,.int .i64 k5] 87)=Wa at *)
  |(
   guard_hyp N3
   generalize w.alloc (.cells #[.int .i64 k1,.int .i64 k2,.int .i64 k3,.int .i64 k4,.int .i64 k5] 87)=Wa at *)
  |(
   guard_hyp N4
   generalize w.alloc (.cells #[.int .i64 k1,.int .i64 k2,.int .i64 0,.int .i64 k4,.int .i64 k5] 87)=Wa at *)
  |(
   generalize w.alloc (.cells #[.int .i64 k1,.int .i64 k2,.int .i64 0,.int .i64 117,.int .i64 k5] 87)=Wa at *)
 have d0':Wa.cell? ⟨p,0,none⟩=some (.pointer v.tr):=d0;clear d0;go_wp2_with fail
 refine HC.out.mono ?_
 rintro e w1 ⟨_,rfl,⟨A,k,rfl,hA⟩,he⟩;have hx1:=hx.trans he;have hc1:=hc.ext he;have g0:w1.cell? ⟨w.heap.size,0,none⟩=some (.int .i64 k1):=hc1.cell 0;have g1:w1.cell? ⟨w.heap.size,1,none⟩=some (.int .i64 k2):=hc1.cell 1
 first
  |(
   guard_hyp N1
   have g2:w1.cell? ⟨w.heap.size,2,none⟩=some (.int .i64 0):=hc1.cell 2;have g3:w1.cell? ⟨w.heap.size,3,none⟩=some (.int .i64 85):=hc1.cell 3)
  |(
   guard_hyp N2
   have g2:w1.cell? ⟨w.heap.size,2,none⟩=some (.int .i64 0):=hc1.cell 2;have g3:w1.cell? ⟨w.heap.size,3,none⟩=some (.int .i64 46):=hc1.cell 3)
  |(
   guard_hyp N3
   have g2:w1.cell? ⟨w.heap.size,2,none⟩=some (.int .i64 k3):=hc1.cell 2;have g3:w1.cell? ⟨w.heap.size,3,none⟩=some (.int .i64 k4):=hc1.cell 3)
  |(
   guard_hyp N4
   have g2:w1.cell? ⟨w.heap.size,2,none⟩=some (.int .i64 0):=hc1.cell 2;have g3:w1.cell? ⟨w.heap.size,3,none⟩=some (.int .i64 k4):=hc1.cell 3)
  |(
   have g2:w1.cell? ⟨w.heap.size,2,none⟩=some (.int .i64 0):=hc1.cell 2;have g3:w1.cell? ⟨w.heap.size,3,none⟩=some (.int .i64 117):=hc1.cell 3)
 have g4:w1.cell? ⟨w.heap.size,4,none⟩=some (.int .i64 k5):=hc1.cell 4;have HX1:=A4 hx1;have HC1:=A4 hc1;have HTr:Hid (∀s' w',Br p w1 col s' w'→Br p w col s' w'):=A4 fun s' w' hd=>Br.trans ⟨HX1.out.alt _,fun _ _ h=>h,fun _ _ h=>h⟩ hd
 clear hx hc d0' he HC hx1 hc1;go_wp2_with fail
 refine(HM.out w1 HX1.out).mono ?_
 first
  |(
   guard_hyp N3
   rintro e w2 hd;have hd2:∃b:Bool,e=.returned (.bool b)∧Br p w1 col (doS s ⟨k1,k2,k3,k4,k5⟩) w2:=by
    exact I59
   clear hd;obtain⟨b,rfl,hd3⟩:=hd2;have HR:=A4 (HTr.out _ _ hd3);clear hd3 HM)
  |(
   guard_hyp N4
   rintro e w2 hd;have hd2:∃b:Bool,e=.returned (.bool b)∧Br p w1 col (doS s ⟨k1,k2,0,k4,k5⟩) w2:=by
    exact I59
   clear hd;obtain⟨b,rfl,hd3⟩:=hd2;have HR:=A4 (HTr.out _ _ hd3);clear hd3 HM)
  |(
   rintro e w2 ⟨rfl,hd⟩;have HR:=A4 (HTr.out _ _ hd);clear hd HM)
 go_wp2_with fail
 first
  |(
   guard_hyp N3
   refine bodyPost_ret (results_none rfl _ _ _) rfl ⟨rfl,HR.out⟩)
  |(
   go_end0
   exact⟨rfl,HR.out⟩)):p:=h
theorem zO (h:p:=by
 first
  |(
   guard_hyp N1
   have hnc:=hl.ncap;have hcm:=hl.nmax)
  |skip
 unfold maxLen at hcm;obtain⟨W,hW,hx,b3,b6⟩:∃W,W=(w.alloc (.cells #[.slice A n c,.int .i64 (a:Int)] 34)).alloc (.cells #[.slice none 0 0,.int .i64 0] 34)∧Al w W∧
  An W w.heap.size 34 #[.slice A n c,.int .i64 (a:Int)]∧An W (w.heap.size+1) 34 #[.slice none 0 0,.int .i64 0]:=
  ⟨_,rfl,(Al.alloc _ _).to_alloc _,(An.new w _ _).ext (Al.alloc _ _),by
   have h:=An.new (w.alloc (.cells #[.slice A n c,.int .i64 (a:Int)] 34)) 34 #[.slice none 0 0,.int .i64 0]
   rwa[World.size_alloc]at h⟩
 have t1:decide ((200:Int)<(n:Int))=false:=by simp;omega
 have t3:((a:Int)<0)=False:=by simp
 have t4:decide (n<a)=false:=by simp;omega
 have t5:decide ((n:Int)<(a:Int))=false:=by simp;omega
 first
  |(
   guard_hyp N1
   have t7:((a:Int)==0)=false:=by simp;omega
   have HA1:Hid (((a-1:Nat):Int)=(a:Int)-1):=A4 (by omega)
   have HC:Hid (∀wx,Al w wx→_):=A4 fun wx he=>Cy (hl.ext he) hA (show n*8≤140737488355328 by omega))
  |skip
 obtain⟨c0,c1⟩:=Kc b3
 first
  |(
   guard_hyp N1
   clear hl h0;rcases hk with rfl|rfl
   all_goals
    go_enter Tryz.func48,Tryz.ntmps48
    go_upto_region 1 with fail
    rw[←hW];clear hW;go_upto_region 6 with fail
    go_quiet (fail)
    have hx0:Al w (W.drewN nq):=hx.trans (Al.drewN W nq);have b3':=b3.ext (Al.drewN W nq);have b6':=b6.ext (Al.drewN W nq);clear c0 c1 b3 b6 hx;generalize W.drewN nq=V at*;obtain⟨e0,e1⟩:=Kc b3';have hz:w.heap.size+1<V.heap.size:=b6'.lt;go_wp2_with fail
    refine(HC.out _ hx0).mono ?_
    rintro e V2 ⟨B,d,rfl,ho,hB,hE⟩;replace b6':=b6'.ext hE;obtain⟨g0,g1⟩:=Kc b6';obtain⟨f0,f1⟩:=Q1 b6';have HF:=A4 (Mz b6' (.slice B n d) (.int .i64 ((a:Int)-1)));have HO:=A4 (So ho hz (.slice B n d) (.int .i64 ((a:Int)-1)));have HX:=A4 (My (hx0.trans hE) (show w.heap.size≤w.heap.size+1 by omega) (.slice B n d) (.int .i64 ((a:Int)-1)))
    have hz0:=hx0.hsize;unfold pO at HF HX HO;clear b3' b6' hx0 e0 e1 HC ho hE hB;go_wp2_with fail
    have hp:eB l (a-1) w (.returned (.tuple #[.agg #[.slice B n d,.int .i64 ((a:Int)-1)],.int .i64 0])) _:=⟨HX.out,B,n,d,by rw[HA1.out],Ay.lower HO.out hz0⟩
    refine bodyPost_ret ?_ rfl hp
    exact Fo rfl _ _ (w.heap.size+1) 34 _ _ _ _ rfl rfl HF.out Tryz.underlying34 rfl (Ng rfl))
  |(
   rcases hc with⟨⟨h1,h2⟩,rfl,h3⟩|⟨⟨h1,h2⟩,rfl,h3,h4⟩|⟨⟨h1,h2⟩,rfl⟩|⟨⟨h1,h2⟩,rfl⟩|⟨rfl,h3,rfl⟩|⟨rfl,h3,rfl⟩|⟨rfl,h3,rfl⟩|⟨rfl,h3,rfl⟩|⟨rfl,h3,rfl⟩|⟨rfl,h3,rfl⟩|⟨rfl,h3,rfl⟩|⟨rfl,h3,rfl⟩
   all_goals
    try(have t6:(k !=127)=true:=by simpa using h2)
    try(have t2:((n:Int)==200)=true:=by have:=h3;simp;omega)
    try(have t7:((a:Int)==0)=true:=by have:=h3;simp;omega)
    try(have t8:decide (a<n)=false:=by have:=h4;simp;omega)
    try(have q1:decide ((32:Int)≤k)=false:=by have:=h1.1;simp;omega)
    try(have q2:(k !=8)=true:=by simpa using h1.2.1)
    try(have q3:(k !=21)=true:=by simpa using h1.2.2)
    try(have q4:(k !=23)=true:=by simpa using h2)
    try(have q5:(k !=127)=true:=by have:=h1.1;simp;omega)
    try clear h4
    try clear h3
    go_enter Tryz.func48,Tryz.ntmps48
    go_upto_region 1 with fail
    rw[←hW];clear hW;go_upto_region 6 with fail
    go_quiet (fail)
    have hx0:Al w (W.drewN nq):=hx.trans (Al.drewN W nq);have b3':=b3.ext (Al.drewN W nq);have b6':=b6.ext (Al.drewN W nq);clear c0 c1 b3 b6 hx;generalize W.drewN nq=V at*;obtain⟨e0,e1⟩:=Kc b3'
   iterate 2
    focus
     go_upto_region 16 with fail
     replace b6':=b6'.ext (Al.alloc V (.cells #[.int .i64 k] 3));replace hx0:=hx0.to_alloc (.cells #[.int .i64 k] 3);clear b3' e0 e1;generalize V.alloc (.cells #[.int .i64 k] 3)=V2 at*;obtain⟨g0,g1⟩:=Kc b6';obtain⟨f0,f1⟩:=Q1 b6';have HF:=A4 (Mz b6' (.slice none 0 0) (.int .i64 0));have HX:=A4 (My hx0 (show w.heap.size≤w.heap.size+1 by omega) (.slice none 0 0) (.int .i64 0))
     unfold pO at HF HX;clear b6' hx0;go_wp2_with fail
     refine bodyPost_ret (Fo rfl _ _ (w.heap.size+1) 34 _ _ _ _ rfl rfl HF.out Tryz.underlying34 rfl (Ng rfl)) rfl ⟨HX.out,_,?_,rfl⟩
     decide
   all_goals
    obtain⟨g0,g1⟩:=Kc b6';obtain⟨f0,f1⟩:=Q1 b6';have HF:=A4 (Mz b6' (.slice none 0 0) (.int .i64 0));have HX:=A4 (My hx0 (show w.heap.size≤w.heap.size+1 by omega) (.slice none 0 0) (.int .i64 0))
    unfold pO at HF HX;clear b3' b6' hx0;go_wp2_with fail
    refine bodyPost_ret (Fo rfl _ _ (w.heap.size+1) 34 _ _ _ _ rfl rfl HF.out Tryz.underlying34 rfl (Ng rfl)) rfl ⟨HX.out,_,?_,rfl⟩
    decide)):p:=h
theorem zN (h:p:=by
 first
  |(
   guard_hyp N1
   obtain rfl:i = -1:=by have:=hij.out;omega
   have hno0:Hid (pP ls (Jp ⟨ls,mo,(a:Int),sl,pl,ol⟩ p) a=none):=A4 (by rw[hfd.out,pP])
   clear hij hfd)
  |(
   have hno0:Hid (pQ ls (Jp ⟨ls,mo,(a:Int),sl,pl,ol⟩ p) n (n-(a+1))=none):=A4 (by rw[hfd.out,show n-j=0 by omega,pQ])
   have hge:n≤j:=by omega
   have hd:decide (j<n)=false:=by simp;omega
   have hd2:decide ((j:Int)<(n:Int))=false:=by simp;omega
   clear hlt hfd)
 have hxr:=A4 (hx1.out.trans hxl.out);have B3r:=A4 (An.ext B3.out hxl.out);have B6r:=A4 (An.ext B6.out hxl.out);obtain⟨k0,k1,k2,k3,k4,k5⟩:=Cg B3r.out;obtain⟨d0,d1,d2,d3,d4,d5⟩:=Cg B6r.out;obtain⟨f0,f1,f2,f3,f4,f5⟩:=Du B6r.out;have HX:=A4 (Em hxr.out (show w.heap.size≤w.heap.size+1 by omega) (.slice none 0 0) (.int .i64 0) (.int .i64 0) (.slice none 0 0) (.slice none 0 0) (.bool false))
 have hfin:=A4 (En B6r.out (.slice none 0 0) (.int .i64 0) (.int .i64 0) (.slice none 0 0) (.slice none 0 0) (.bool false));unfold Pg at HX hfin
 first
  |(
   guard_hyp N1
   have hno:Hid (∀k,¬Yc ⟨ls,mo,(a:Int),sl,pl,ol⟩ now p true k):=A4 (fun k hh=>by
    have h1:=hh.2.2.2;unfold Yk at h1;simp only[if_true,Int.toNat_natCast]at h1;rw[hno0.out]at h1;cases h1))
  |(
   have hno:Hid (∀k,¬Yc ⟨ls,mo,(a:Int),sl,pl,ol⟩ now p false k):=A4 (fun k hh=>by
    have h1:=hh.2.2.2;unfold Yk at h1;simp only[Bool.false_eq_true,if_false,Int.toNat_natCast]at h1;rw[HN.out,hno0.out]at h1;cases h1))
 go_wp2_with fail
 refine bodyPost_ret (v:=.tuple #[.agg Dj,.slice none 0 0,.int .i64 5]) ?_ rfl ⟨HX.out,.inr ⟨hno.out,5,rfl,by omega⟩⟩
 exact Dm rfl _ _ (w.heap.size+1) 54 _ _ _ _ _ rfl rfl rfl hfin.out Tryz.underlying54 rfl (Ek rfl)):p:=h
theorem pS (h:p:=by
 obtain⟨i0,hi,hz0,hz1,hz2⟩:=info_parts Bz;have HT:=A4 (tF (k:=u) h hb hB hx hg hm hj (by omega) (by omega))
 first
  |(
   guard_hyp N1
   have hlen:Hid (Dc b j u=((H7 b j u).1,(H7 b j u).2++[11])):=A4 rfl)
  |(
   have hmd:=hb.ncap;have hdm:=hb.nmax;unfold maxLen at hdm;have hlen:Hid (Dd b j u v=(v,(H7 b j u).2++(b.drop u).take (v-u))):=A4 rfl)
 have hlz:(H7 b j u).2.length≤900121:=by
  have h1:=R6 (b:=b) (x:=j.1) (y:=u) (by omega) (by omega)
  show(j.2++Ff b j.1 u).length≤_
  rw[List.length_append];omega
 first
  |guard_hyp N1
  |(
   have hcut:=To B m d u v huv (by omega)
   have HR:=A4 (hb.cutA huv hv))
 have HX:=A4 hx;clear h hb hB hx
 first
  |guard_hyp N1
  |(
   have hall:=And.intro hcut HR;clear hcut HR
   revert hall hlen
   have hpm:v-u≤120:=by omega
   revert hpm
   generalize (b.drop u).take (v-u)=z;generalize cutA B d u=D;generalize v-u=p;generalize d-u=r';intro hpm hlen;rintro⟨hcut,HR⟩)
 revert HT hlz hlen
 generalize H7 b j u=j1
 first
  |(
   guard_hyp N1
   intro HT hlen hlz)
  |(
   intro HT hlz hlen)
 obtain⟨x,sg⟩:=j1;have hlz:sg.length≤900121:=hlz
 first
  |(
   guard_hyp N1
   go_enter Tryz.func70,Tryz.ntmps70)
  |(
   go_enter Tryz.func69,Tryz.ntmps69)
 go_wp2_with fail
 refine HT.out.mono ?_
 rintro e w1 ⟨rfl,hJ,hK⟩;clear HT;obtain⟨S,q,r,hbk,hown⟩:=hJ;have hbk:An w1 g 129 #[.slice B m d,.int .i64 (x:Int),.slice S q r]:=hbk;have hown:Av w1 (g+1) S q r sg:=hown;have hq:q≤1000000:=by have:sg.length=q:=(Av.ints hown).len;omega
 have hgw:=hbk.lt;have hx1:=hK w0 HX.out hg;have HBK:=A4 hbk
 first
  |guard_hyp N1
  |(
   have hownd:=Av.ext hown (Al.drew w1);have hrd:=(HR.out.ext hx1).ext (Al.drew w1);have hrl:=hrd.one;have HONE:=A4 hrl;have hxd:=hx1.to_drew;have hgd:g+1≤w1.drew.heap.size:=hgw)
 obtain⟨c0,c1,c2⟩:=Ku hbk
 first
  |(
   guard_hyp N1
   have c2':(w1.alloc (.cells #[.int .i64 11] 3)).cell? ⟨g,2,none⟩=some (.slice S q r):=(Al.alloc w1 _).cell c2)
  |skip
 have HOB:Hid (∀k,(Value.slice S q r).ownBlock=some k→g+1≤k):=A4 fun k hk=>(Ay.blk hown k hk).1
 have HK:=A4 hK;have hg0:w0.heap.size≤g+1:=by omega
 first
  |(
   guard_hyp N1
   have hb1:q+1≤maxLen:=by unfold maxLen;omega
   have hb2:(q+1)*8≤140737488355328:=by omega
   clear hbk hK HX;go_wp2_with (at_builtin;refine Ci rfl (.tmp 12) (.tmp 13) 27 rfl w0 (g+1) 3 i0 _ 1 8 Tryz.underlying27 hi hz0 hz1 hz2 rfl (by decide) S q r _ rfl hown #[.int .i64 11] rfl (by simp[Value.oneCell']) rfl hb1 hb2 hx1 hg0 hgw ?_)
   intro S2 r2 w2 hO2 hgr hor hx2;have hbk2:=HBK.out.grown hgr (fun e=>by have:=HOB.out g e.symm;omega)
   obtain⟨e0,e1,e2⟩:=Ku hbk2;have f2:=hbk2.frozen 2;have hK3:Hid (Cv w (w2.setCell ⟨g,2,none⟩ (.slice S2 (q+1) r2)) g):=A4 (HK.out.trans ((show Cv w1 w2 g from fun w9 h9 h8=>Al.grown h9 hgr hown (by omega)).trans Cv.set))
   have hB3:Hid (An (w2.setCell ⟨g,2,none⟩ (.slice S2 (q+1) r2)) g 129 #[.slice B m d,.int .i64 (x:Int),.slice S2 (q+1) r2]):=A4 (hbk2.set_ 2 (.slice S2 (q+1) r2));have hown3:=Ay.setCell hO2 (p:=⟨g,2,none⟩) (show g<g+1 by omega) (.slice S2 (q+1) r2)
   have hO3:Hid (Av (w2.setCell ⟨g,2,none⟩ (.slice S2 (q+1) r2)) (g+1) S2 (q+1) r2 (sg++[11])):=A4 (by simpa[Av]using hown3)
   clear hO2 hgr hor hx2 hbk2 e0 e1 hown3 hown hx1)
  |(
   have hb1:q+p≤maxLen:=by unfold maxLen;omega
   have hb2:(q+p)*8≤140737488355328:=by omega
   clear hbk hown hx1 hK HX HR hrl)
 go_wp2_with fail
 first
  |(
   guard_hyp N1
   go_ret
   exact⟨rfl,by rw[hlen.out];exact⟨S2,_,r2,hB3.out,hO3.out⟩,hK3.out⟩)
  |(
   go_region_law (first
    |(
     refine Q6 rfl (.tmp 14) (.tmp 21) 27 rfl w0 (g+1) 3 i0 _ 1 8 Tryz.underlying27 hi hz0 hz1 hz2 rfl (by decide) S q r _ rfl hownd D p r' _ rfl hrd HONE.out hb1 hb2 hxd hg0 hgd ?_
     intro S2 r2 w2 hO2 hgr hor hx2;have hbk2:=(HBK.out.ext (Al.drew w1)).grown hgr (fun e=>by have:=HOB.out g e.symm;omega)
     obtain⟨e0,e1,e2⟩:=Ku hbk2;have f2:=hbk2.frozen 2;have hK2:Hid (Cv w w2 g):=A4 (HK.out.trans (fun w9 h9 h8=>Al.grown (h9.to_drew) hgr hownd (by omega)))))
   all_goals
    have hbk3:An (w2.setCell ⟨g,2,none⟩ (.slice S2 (q+p) r2)) g 129 #[.slice B m d,.int .i64 (x:Int),.slice S2 (q+p) r2]:=hbk2.set_ 2 (.slice S2 (q+p) r2);have hown3:=Ay.setCell hO2 (p:=⟨g,2,none⟩) (show g<g+1 by omega) (.slice S2 (q+p) r2)
    have hK3:Hid (Cv w (w2.setCell ⟨g,2,none⟩ (.slice S2 (q+p) r2)) g):=A4 (hK2.out.trans Cv.set);have hO3:Hid (Av (w2.setCell ⟨g,2,none⟩ (.slice S2 (q+p) r2)) (g+1) S2 (q+p) r2 (sg++z)):=A4 (by simpa[Av]using hown3)
    have hB3:=A4 hbk3;clear hO2 hgr hor hx2 hbk2 e0 e1 e2 f2 hK2 hown3 c0 c1 c2 HBK hownd hrd HONE hxd hgd hbk3
    revert hK3 hO3 hB3
    generalize w2.setCell ⟨g,2,none⟩ (.slice S2 (q+p) r2)=w3;intro hK3 hO3 hB3;have f1:=hB3.out.frozen 1;obtain⟨e0,e1,e2⟩:=Ku hB3.out;have hB4:Hid (An (w3.setCell ⟨g,1,none⟩ (.int .i64 (v:Int))) g 129 #[.slice B m d,.int .i64 (v:Int),.slice S2 (q+p) r2]):=A4 (hB3.out.set_ 1 _);have hO4:=A4 (Ay.setCell hO3.out (p:=⟨g,1,none⟩) (show g<g+1 by omega) (.int .i64 (v:Int)))
    go_wp2_with fail
    go_ret
    exact⟨rfl,by rw[hlen.out];exact⟨S2,_,r2,hB4.out,hO4.out⟩,hK3.out.trans Cv.set⟩)):p:=h
theorem Qp (h:p:=by
 first
  |(
   guard_hyp N1
   by_cases hle:n≤k)
  |(
   by_cases hle:n-1≤k)
 ·first
   |(
    guard_hyp N1
    rw[show(if(if true=true then n else n-1)≤k then(none:Option (Nat×Bool))else some (min (if true=true then n else n-1) (k+g),false))=none by simp[hle],Lh])
   |(
    rw[show(if(if false=true then n else n-1)≤k then(none:Option (Nat×Bool))else some (min (if false=true then n else n-1) (k+g),false))=none by simp[hle],Lh])
  go_enter Tryz.func150,Tryz.ntmps150
  go_wp2_with fail
  all_goals
   obtain⟨c6,c7,hx,hx1,hx2⟩:=D0 HB.out hx0 (by simp)
   refine bodyPost_ret (by simp[results,Tryz.results150,go_sem,c6,c7];try rfl) rfl ?_
   refine⟨rfl,by first|exact hx _ _|exact hx0|exact hx1 _|exact hx2 _|exact(Al.alloc _ _).to_alloc _⟩
 ·have HL:=A4 hle
  first
   |(
    guard_hyp N1
    rw[show(if(if true=true then n else n-1)≤k then(none:Option (Nat×Bool))else some (min (if true=true then n else n-1) (k+g),false))=some (min (n) (k+g),false)by simp;omega])
   |(
    rw[show(if(if false=true then n else n-1)≤k then(none:Option (Nat×Bool))else some (min (if false=true then n else n-1) (k+g),false))=some (min (n-1) (k+g),false)by simp;omega])
  go_enter Tryz.func150,Tryz.ntmps150
  go_wp2_with fail
  all_goals
   obtain⟨c6,c7,hx,hx1,hx2⟩:=D0 HB.out hx0 (by simp)
   refine bodyPost_ret (by simp[results,Tryz.results150,go_sem,c6,c7];try rfl) rfl ?_
   refine⟨Nc (by have:=HL.out;omega),by first|exact hx _ _|exact hx0|exact hx1 _|exact hx2 _|exact(Al.alloc _ _).to_alloc _⟩):p:=h
theorem zM (h:p:=by
 obtain⟨h1,h2,h3,h4,h5,hr,ho,hw⟩:=Fu h;have HL:=A4 (Nh r);have HO:=A4 (Ky o);have hx:=Al.alloc w (.cells #[.int .i64 f,.int .i64 r,.int .i64 o,.int .i64 s,.int .i64 wt] 36);clear h;unfold Ja;simp only;rcases hr with rfl|⟨hr0,hr⟩
 ·rcases ho with rfl|⟨ho0,ho⟩
  ·have hs0:s=0:=by have h6:=h5 rfl;omega
   subst hs0;clear hw;subst hwt;exact yA hx HL HO
  ·have hob:(o !=0)=true:=by simpa using ho0
   have hoc:(o==0)=false:=by simpa using ho0
   rw[ho]at HO;exfalso;revert hw;subst hwt;simp[Cz,ho0]
 ·have hrb:(r !=0)=true:=by simpa using hr0
  have hrc:(r==0)=false:=by simpa using hr0
  rw[hr]at HL;rcases ho with rfl|⟨ho0,ho⟩
  first
   |(
    guard_hyp N1
    ·have hs0:s=0:=by have h6:=h5 rfl;omega
     subst hs0;exfalso;revert hw;subst hwt;simp[Cz,hr0])
   |(
    ·have hs0:s=0:=by have h6:=h5 rfl;omega
     subst hs0;clear hw;subst hwt;exact yA hx HL HO)
  ·have hob:(o !=0)=true:=by simpa using ho0
   have hoc:(o==0)=false:=by simpa using ho0
   rw[ho]at HO;exfalso;revert hw;subst hwt;simp[Cz,ho0,hr0]):p:=h
theorem zL (h:p:=by
 first
  |(
   guard_hyp N1
   have hlen:=hl.len;obtain⟨i0,hi,hz0,hz1,hz2⟩:=info_parts Ri;obtain⟨W,hW,hx,hz,b2,b3,b4,b5⟩:=Uq w (.slice A (n+1) c) (.slice none 0 0) (.pointer q) (.int .i64 a);have HC:=A4 (Um (hl.ext hx) h1 (fun e=>by subst e;have:=hl.at_ (k:=0) (by omega);obtain⟨_,h,_⟩:=this;cases h) (by omega))
   have HX:=A4 hx;have HB:=A4 (And.intro b3 (And.intro b4 b5));have c20:W.cell? ⟨w.heap.size,0,none⟩=some (.slice A (n+1) c):=b2.cell 0)
  |(
   obtain⟨W,hW,hx,hz,b2,b3,b4,b5⟩:=Uq w (.slice A 0 c) (.slice none 0 0) (.pointer q) (.int .i64 a);have HC:Hid (∀wq,Calls Tryz.prog 113 #[.agg #[.slice A 0 c,.slice none 0 0]] wq fun e w'=>∃v,e=.returned v∧(∃B d,v=.agg #[.slice B 0 d,.slice none 0 0])∧Al wq w'):=
    A4 fun wq=>(Um (xs:=[]) ⟨rfl,Nat.zero_le _,hc,fun h=>absurd h (Nat.lt_irrefl 0)⟩ nofun hA (by omega)).mono fun e w' ⟨v,h1,⟨B,d,h2,_⟩,h3⟩=>⟨v,h1,⟨B,d,h2⟩,h3⟩
   have c20:W.cell? ⟨w.heap.size,0,none⟩=some (.slice A 0 c):=b2.cell 0)
 have c21:W.cell? ⟨w.heap.size,1,none⟩=some (.slice none 0 0):=b2.cell 1
 first
  |(
   guard_hyp N1
   have K1:=A4 k1;have K2:=A4 k2;clear hl h1 hx b2 b3 b4 b5)
  |(
   clear hA)
 go_enter Tryz.func94,Tryz.ntmps94
 go_upto_region 1 with fail
 rw[←hW];clear hW
 first
  |(
   guard_hyp N1
   go_wp2_with fail
   refine HC.out.mono ?_
   rintro e w1 ⟨_,rfl,⟨B,d,rfl,oB⟩,he⟩;have z0:=he.hsize;obtain⟨W2,hW2,x2,z2,b7,b8⟩:∃W2,W2=(w1.alloc (.cells #[.slice B (n+1) d,.slice none 0 0] 62)).alloc (.cells #[.pointer none,.int .i64 0] 59)∧Al w1 W2∧W2.heap.size=w1.heap.size+2∧
    An W2 w1.heap.size 62 #[.slice B (n+1) d,.slice none 0 0]∧An W2 (w1.heap.size+1) 59 #[.pointer none,.int .i64 0]:=
    ⟨_,rfl,(Al.alloc _ _).to_alloc _,by simp,(An.new w1 _ _).ext (Al.alloc _ _),by
     have h:=An.new (w1.alloc (.cells #[.slice B (n+1) d,.slice none 0 0] 62)) 59 #[.pointer none,.int .i64 0]
     rwa[World.size_alloc]at h⟩
   have HN:=A4 (cH ((Ay.rd oB).ext x2) K1.out K2.out);go_upto_region 5 with fail
   rw[←hW2];clear hW2;have c70:W2.cell? ⟨w1.heap.size,0,none⟩=some (.slice B (n+1) d):=b7.cell 0;have n1:¬w1.heap.size=w.heap.size:=by omega
   go_wp2_with fail
   refine HN.out.mono ?_
   rintro e w3 ⟨rfl,h3⟩;have b7':=b7.ext h3;have b8':=b8.ext h3;have e80:=b8'.cell 0;have e81:=b8'.cell 1;have e70:=b7'.cell 0;have e71:=b7'.cell 1;have f80:=b8'.frozen 0;have f81:=b8'.frozen 1;have f70:=b7'.frozen 0;simp only[List.getElem?_toArray,List.getElem?_cons_zero,List.getElem?_cons_succ]at e80 e81 e70 e71;go_upto_region 6 with fail
   have b8'':An (((w3.setCell ⟨w1.heap.size+1,0,none⟩ (.pointer r)).setCell ⟨w1.heap.size+1,1,none⟩ (.int .i64 b)).setCell ⟨w1.heap.size,0,none⟩ (.slice B n d)) (w1.heap.size+1) 59 #[.pointer r,.int .i64 b]:=Bh (Ds b8' _ _) (by omega) 0 _
   have b7'':An (((w3.setCell ⟨w1.heap.size+1,0,none⟩ (.pointer r)).setCell ⟨w1.heap.size+1,1,none⟩ (.int .i64 b)).setCell ⟨w1.heap.size,0,none⟩ (.slice B n d)) w1.heap.size 62 #[.slice B n d,.slice none 0 0]:=(Bh (Bh b7' (g':=w1.heap.size+1) (by omega) 0 _) (g':=w1.heap.size+1) (by omega) 1 _).set_ 0 _
   have hxw:Al w1 w3:=x2.trans h3;have hX4:Al W (((w3.setCell ⟨w1.heap.size+1,0,none⟩ (.pointer r)).setCell ⟨w1.heap.size+1,1,none⟩ (.int .i64 b)).setCell ⟨w1.heap.size,0,none⟩ (.slice B n d)):=(Dr (he.trans hxw) (show W.heap.size≤w1.heap.size+1 by omega) _ _).setCell (p:=⟨w1.heap.size,0,none⟩) z0 _
   have oB4:Ay (((w3.setCell ⟨w1.heap.size+1,0,none⟩ (.pointer r)).setCell ⟨w1.heap.size+1,1,none⟩ (.int .i64 b)).setCell ⟨w1.heap.size,0,none⟩ (.slice B n d)) W.heap.size 59 2 B (n+1) d xs:=Ay.same (Ay.ext oB hxw) fun k hk=>by
    have:=(Ay.blk oB k hk).2;rw[Cd (show k≠w1.heap.size by omega),Cd (show k≠w1.heap.size+1 by omega),Cd (show k≠w1.heap.size+1 by omega)]
   have gb:=fun k (hk:(Value.slice B (n+1) d).ownBlock=some k)=>Ay.blk oB k hk
   clear e80 e81 e70 e71 f80 f81 f70 b7 b8 b7' b8' oB HN c70;generalize ((w3.setCell ⟨w1.heap.size+1,0,none⟩ (.pointer r)).setCell ⟨w1.heap.size+1,1,none⟩ (.int .i64 b)).setCell ⟨w1.heap.size,0,none⟩ (.slice B n d)=W4 at*;have c70:=b7''.cell 0;have c71:=b7''.cell 1;have b3:=HB.out.1.ext hX4;have c30:=b3.cell 0;have c31:=b3.cell 1;simp only[List.getElem?_toArray,List.getElem?_cons_zero,List.getElem?_cons_succ]at c70 c71 c30 c31;have hxx:=kB W4;go_wp2_with (at_builtin;refine Ci rfl (.tmp 26) (.tmp 28) 60 rfl (tM W4) 0 59 i0 (.agg #[.pointer none,.int .i64 0]) 2 16 Tryz.underlying60 hi hz0 hz1 hz2 rfl (by decide) none 0 0 [] rfl (Ay.nil _ _ _ _) #[.pointer q,.int .i64 a] rfl ?_ rfl ?_ ?_ hxx (Nat.le_refl _) (Nat.zero_le _) ?_)
   ·exact⟨rfl,rfl⟩
   ·unfold maxLen;omega
   ·omega
   intro F2 g2 w5 oF5 hgr _ _;have hE5:Al W4 w5:=⟨hgr.os,hgr.tape,hgr.output,hgr.size,fun k hk=>hgr.block k hk nofun⟩
   have b7:=b7''.ext hE5;have b8:=b8''.ext hE5;have g70:=b7.cell 0;have g71:=b7.cell 1;have f71:=b7.frozen 1;simp only[List.getElem?_toArray,List.getElem?_cons_zero,List.getElem?_cons_succ]at g70 g71;go_upto_region 7 with fail
   have b7w:=b7.set_ 1 (.slice F2 1 g2);have b8w:=Bh (g':=w1.heap.size) b8 (by omega) 1 (.slice F2 1 g2)
   have oBw:Ay (w5.setCell ⟨w1.heap.size,1,none⟩ (.slice F2 1 g2)) W.heap.size 59 2 B (n+1) d xs:=Ay.same (Ay.ext oB4 hE5) fun k hk=>Cd (show k≠w1.heap.size by have:=(gb k hk).2;omega)
   have hXw:=(hX4.trans hE5).setCell (p:=⟨w1.heap.size,1,none⟩) z0 (.slice F2 1 g2);clear g70 g71 f71 b7 b8 c70 c71 c30 c31 hgr oF5 b7'' b8'' oB4 hE5 hX4 hxx;generalize w5.setCell ⟨w1.heap.size,1,none⟩ (.slice F2 1 g2)=W6 at*;have HSS:Hid (Al w W6.drew∧An W6.drew w1.heap.size 62 #[.slice B n d,.slice F2 1 g2]∧An W6.drew (w1.heap.size+1) 59 #[.pointer r,.int .i64 b]):=A4 ⟨(HX.out.trans hXw).to_drew,b7w,b8w⟩;have b4:An W6.drew (w.heap.size+1+1) 62 #[.slice none 0 0,.slice none 0 0]:=HB.out.2.1.ext (hXw.to_drew);have b5:An W6.drew (w.heap.size+1+1+1) 59 #[.pointer none,.int .i64 0]:=HB.out.2.2.ext (hXw.to_drew);have oB6:Ay W6.drew W.heap.size 59 2 B (n+1) d xs:=oBw;refine wp_region_held_drew (S:=fun w'=>Al w w'∧An w' w1.heap.size 62 #[.slice B n d,.slice F2 1 g2]∧An w' (w1.heap.size+1) 59 #[.pointer r,.int .i64 b]) (by kernel_rfl) HSS.out (fun hS=>?_)
   refine F4 (i:=0) (v:=(.agg #[.slice B n d,.slice F2 1 g2])) rfl (fun w' hSw=>by have e0:=hSw.2.1.cell 0;have e1:=hSw.2.1.cell 1;simp only[List.getElem?_toArray,List.getElem?_cons_zero,List.getElem?_cons_succ]at e0 e1;go_simp) hS ?_
   refine F4 (i:=1) (v:=(.agg #[.pointer r,.int .i64 b])) rfl (fun w' hSw=>by have e0:=hSw.2.2.cell 0;have e1:=hSw.2.2.cell 1;simp only[List.getElem?_toArray,List.getElem?_cons_zero,List.getElem?_cons_succ]at e0 e1;go_simp) hS ?_
   clear HSS b7w b8w oBw hXw;generalize W6.drew=cur at *)
  |(
   go_upto_region 2 with fail
   have HSS:Hid (Al w W.drew∧An W.drew w.heap.size 62 #[.slice A 0 c,.slice none 0 0]∧An W.drew (w.heap.size+1) 59 #[.pointer q,.int .i64 a]):=A4 ⟨hx.to_drew,b2,b3⟩;have b4:An W.drew (w.heap.size+1+1) 62 #[.slice none 0 0,.slice none 0 0]:=b4;have b5:An W.drew (w.heap.size+1+1+1) 59 #[.pointer none,.int .i64 0]:=b5;refine wp_region_held_drew (S:=fun w'=>Al w w'∧An w' w.heap.size 62 #[.slice A 0 c,.slice none 0 0]∧An w' (w.heap.size+1) 59 #[.pointer q,.int .i64 a]) (by kernel_rfl) HSS.out (fun hS=>?_)
   refine F4 (i:=0) (v:=(.agg #[.slice A 0 c,.slice none 0 0])) rfl (fun w' hSw=>by have e0:=hSw.2.1.cell 0;have e1:=hSw.2.1.cell 1;simp only[List.getElem?_toArray,List.getElem?_cons_zero,List.getElem?_cons_succ]at e0 e1;go_simp) hS ?_
   refine F4 (i:=2) (v:=(.agg #[.pointer q,.int .i64 a])) rfl (fun w' hSw=>by have e0:=hSw.2.2.cell 0;have e1:=hSw.2.2.cell 1;simp only[List.getElem?_toArray,List.getElem?_cons_zero,List.getElem?_cons_succ]at e0 e1;go_simp) hS ?_
   clear HSS b2 b3 hx c20 c21;generalize W.drew=cur at*;refine wpAnyH_ready (rs:=[1]) (by decide +kernel) (by simp) (AllReadyH.cons rfl (fun K hK=>?_) AllReadyH.nil)
   refine C9 rfl 113 #[.agg #[.slice A 0 c,.slice none 0 0]] rfl (by kernel_rfl) (fun v w'=>∃B d,v=.agg #[.slice B 0 d,.slice none 0 0]) ((HC.out _).mono fun e w' ⟨v,h1,h2,h3⟩=>⟨v,h1,h2,h3⟩) ?_
   rintro v w2 ⟨B,d,rfl⟩ hE;refine hK.out _ _ ⟨hS.1.trans hE,hS.2.1.ext hE,hS.2.2.ext hE⟩ (fun hS'=>?_)
   replace b4:=b4.ext hE;replace b5:=b5.ext hE;clear hK K hE hS
   try simp only[List.getElem_toArray,List.getElem_cons_zero,List.getElem_cons_succ,Act.put,List.setIfInBounds_toArray,List.set_cons_zero,List.set_cons_succ])
 have e0:=b4.cell 0;have e1:=b4.cell 1;have f0:=b4.frozen 0;have f1:=b4.frozen 1;simp only[List.getElem?_toArray,List.getElem?_cons_zero,List.getElem?_cons_succ]at e0 e1
 first
  |(
   guard_hyp N1
   refine wpAnyH_ready (rs:=[2]) (by decide +kernel) (by simp) (AllReadyH.cons rfl (fun K hK=>?_) AllReadyH.nil))
  |(
   refine wpAnyH_ready (rs:=[3]) (by decide +kernel) (by simp) (AllReadyH.cons rfl (fun K hK=>?_) AllReadyH.nil))
 go_simp
 first
  |(
   guard_hyp N1
   refine hK.out _ _ ⟨Dr hS.1 (show w.heap.size≤w.heap.size+1+1 by omega) _ _,E0 hS.2.1 (by omega) _ _,E0 hS.2.2 (by omega) _ _⟩ (fun hS'=>?_))
  |(
   refine hK.out _ _ ⟨Dr hS'.1 (show w.heap.size≤w.heap.size+1+1 by omega) _ _,E0 hS'.2.1 (by omega) _ _,E0 hS'.2.2 (by omega) _ _⟩ (fun hS=>?_))
 clear hK K e0 e1 f0 f1
 first
  |(
   guard_hyp N1
   have b4':=Ds b4 (.slice B n d) (.slice F2 1 g2);have b5':=E0 (g':=w.heap.size+1+1) b5 (by omega) (.slice B n d) (.slice F2 1 g2)
   have oB7:=Hm oB6 b4 (by decide) (.slice B n d) (.slice F2 1 g2)
   clear hS b4 b5 oB6)
  |(
   have b4':=Ds b4 (.slice B 0 d) (.slice none 0 0);have b5':=E0 (g':=w.heap.size+1+1) b5 (by omega) (.slice B 0 d) (.slice none 0 0)
   clear hS' b4 b5)
 generalize World.setCell (World.setCell _ _ _) _ _=W7 at*
 try simp only[List.getElem_toArray,List.getElem_cons_zero,List.getElem_cons_succ,Act.put,List.setIfInBounds_toArray,List.set_cons_zero,List.set_cons_succ]
 have e0:=b5'.cell 0;have e1:=b5'.cell 1;have f0:=b5'.frozen 0;have f1:=b5'.frozen 1;simp only[List.getElem?_toArray,List.getElem?_cons_zero,List.getElem?_cons_succ]at e0 e1
 first
  |(
   guard_hyp N1
   refine wpAnyH_ready (rs:=[3]) (by decide +kernel) (by simp) (AllReadyH.cons rfl (fun K hK=>?_) AllReadyH.nil))
  |(
   refine wpAnyH_ready (rs:=[4]) (by decide +kernel) (by simp) (AllReadyH.cons rfl (fun K hK=>?_) AllReadyH.nil))
 go_simp
 first
  |(
   guard_hyp N1
   refine hK.out _ _ ⟨Dr hS'.1 (show w.heap.size≤w.heap.size+1+1+1 by omega) _ _,E0 hS'.2.1 (by omega) _ _,E0 hS'.2.2 (by omega) _ _⟩ (fun hS=>?_))
  |(
   refine hK.out _ _ ⟨Dr hS.1 (show w.heap.size≤w.heap.size+1+1+1 by omega) _ _,E0 hS.2.1 (by omega) _ _,E0 hS.2.2 (by omega) _ _⟩ (fun hS'=>?_))
 clear hK K e0 e1 f0 f1
 first
  |(
   guard_hyp N1
   have b5:=Ds b5' (.pointer r) (.int .i64 b);have b4:=E0 (g':=w.heap.size+1+1+1) b4' (by omega) (.pointer r) (.int .i64 b)
   have oB8:Ay _ W.heap.size 59 2 B (n+1) d xs:=Ay.same oB7 fun k hk=>bR (w:=W7) (g:=w.heap.size+1+1+1) (show k≠w.heap.size+1+1+1 by have:=(gb k hk).1;omega) (.pointer r) (.int .i64 b)
   clear hS' b4' b5' oB7)
  |(
   have b5:=Ds b5' (.pointer q) (.int .i64 a);have b4:=E0 (g':=w.heap.size+1+1+1) b4' (by omega) (.pointer q) (.int .i64 a)
   clear hS b4' b5')
 generalize World.setCell (World.setCell _ _ _) _ _=W8 at*
 try simp only[List.getElem_toArray,List.getElem_cons_zero,List.getElem_cons_succ,Act.put,List.setIfInBounds_toArray,List.set_cons_zero,List.set_cons_succ]
 first
  |(
   guard_hyp N1
   refine wpAnyH_ready (rs:=[4]) (by decide +kernel) (by simp) (AllReadyH.cons rfl (fun K hK=>?_) AllReadyH.nil))
  |(
   refine wpAnyH_ready (rs:=[5]) (by decide +kernel) (by simp) (AllReadyH.cons rfl (fun K hK=>?_) AllReadyH.nil))
 go_simp
 first
  |(
   guard_hyp N1
   refine hK.out _ _ hS (fun _=>?_))
  |(
   refine hK.out _ _ hS' (fun _=>?_))
 clear hK K;refine wpAnyH_done (by kernel_rfl) ?_ _
 have HB5:=A4 b5;have HB4:=A4 b4
 first
  |(
   guard_hyp N1
   have HO:=A4 oB8;have HS:=A4 hS.1;clear b4 b5 oB8 hS)
  |(
   have HS:=A4 hS'.1;clear b4 b5 hS')
 go_wp2_with fail
 first
  |(
   guard_hyp N1
   refine bodyPost_ret (Nt rfl _ _ _ _ _ _ _ _ _ _ _ _ _ rfl rfl rfl HB4.out HB5.out Tryz.underlying62 rfl (by kernel_rfl) Tryz.underlying59 rfl (by kernel_rfl)) rfl ⟨B,d,_,_,rfl,?_,HS.out⟩
   have hp:=Ay.popS (Ay.lower HO.out HX.out.hsize);exact hp)
  |(
   refine bodyPost_ret (Nt rfl _ _ _ _ _ _ _ _ _ _ _ _ _ rfl rfl rfl HB4.out HB5.out Tryz.underlying62 rfl (by kernel_rfl) Tryz.underlying59 rfl (by kernel_rfl)) rfl ⟨⟨_,_,rfl⟩,HS.out⟩)):p:=h
theorem yI (h:p:=by
 have hnc:=hl.ncap;have hcm:=hl.nmax;have hlen:=A4 hl.len;have HR:=A4 (@fO A n c k w hnc hcm);have hv:(if n>4096 then(2:Int)else if(k:Int)<0∨(k:Int)>n then 1 else 0)=0:=by
  rw[if_neg (by omega),if_neg (by omega)]
 rw[hv]at HR;clear hv;unfold maxLen at hcm
 first
  |(
   guard_hyp N1
   go_enter Tryz.func86,Tryz.ntmps86)
  |(
   guard_hyp N2
   go_enter Tryz.func160,Tryz.ntmps160)
  |(
   go_enter Tryz.func159,Tryz.ntmps159)
 go_wp2_with fail
 refine HR.out.mono ?_
 rintro e w1 ⟨rfl,rfl⟩;clear HR
 first
  |(
   guard_hyp N1
   have HK:=A4 (Z4 (big:=big) (hl.ext (Al.alloc w1 (.cells #[.slice A n c,.bool big] 180))) k 0 (by omega) (by omega) hn))
  |(
   guard_hyp N2
   have HK:=Mq (big:=big) (hl.ext (Al.alloc w1 (.cells #[.slice A n c,.bool big] 180))) (k+1) 0 (by omega) (by omega) hn
   rw[show((k+1:Nat):Int)=(k:Int)+1 by omega]at HK
   have HK:=A4 HK)
  |(
   have HK:=A4 (Gi (big:=big) (hl.ext (Al.alloc w1 (.cells #[.slice A n c,.bool big] 180))) k (by omega) (by omega)))
 go_wp2_with fail
 refine HK.out.mono ?_
 rintro e w2 ⟨rfl,he2⟩;clear HK;have hb:=(An.new w1 180 #[.slice A n c,.bool big]).ext he2;have he:=(Al.alloc w1 (.cells #[.slice A n c,.bool big] 180)).trans he2
 first
  |(
   guard_hyp N1
   have hl2:=hl.ext he;clear hl he2;obtain⟨j1,-,-⟩:=J2 (l:=l) (big:=big) (kind:=0) k;have HB:Hid (Fj l k big=if Ga l big 0 k=0 then 0 else Ga l big (Au l big ((Ga l big 0 k:Int)-1)) (Ga l big 0 k)):=A4 rfl
   revert HB j1
   generalize Ga l big 0 k=j;intro j1 HB;rcases Nat.eq_zero_or_pos j with h0|h0
   ·subst h0
    rw[if_pos rfl]at HB;clear hb;go_wp2_with fail
    go_ret2
    exact⟨by rw[HB.out];rfl,he⟩
   ·rw[if_neg (by omega)]at HB
    have e0:0≤Au l big ((j:Int)-1):=by
     rw[show((j:Int)-1)=((j-1:Nat):Int)by omega,Ft (by rw[hlen.out];omega)]
     exact Z8 _ _
    have e1:=(Vx l big ((j:Int)-1)).2;obtain⟨r1,-,-⟩:=J2 (l:=l) (big:=big) (kind:=Au l big ((j:Int)-1)) j;have c0:∀i:Nz w2,i.w.cell? ⟨w1.heap.size,0,none⟩=some (.slice A n c):=fun i=>(hb.ext i.h).cell 0
    have c1:∀i:Nz w2,i.w.cell? ⟨w1.heap.size,1,none⟩=some (.bool big):=fun i=>(hb.ext i.h).cell 1
    clear hb;go_wp2_with fail
    refine Nr (by kernel_rfl) (by kernel_rfl) ?_
    repeat
     refine wpQuiet_step (fun K hK=>?_)
     go_simp
     first
      |(refine hK _ ?_;clear hK K)
      |(refine⟨_,fun _=>rfl,?_⟩;refine hK _ ?_;clear hK K)
      |(
       apply Exists.intro
       refine⟨fun _=>?_,hK _ ?_⟩
       (first|(go_at_call 108;exact Qg (Gi (hl2.ext (Nz.h _)) _ (by omega) (by omega)))|(go_at_call 107;exact Qg (Z4 (hl2.ext (Nz.h _)) j _ (by omega) (by omega) hn)))
       clear hK K)
    refine wpQuiet_nil ?_
    rintro _ ⟨i,rfl⟩;clear c0 c1;go_wp2_with fail
    go_ret2
    exact⟨by rw[HB.out];simp;exact IntWalk.i64_in _ (by omega),he.trans i.h⟩)
  |(
   guard_hyp N2
   have hl2:=hl.ext he;clear hl he2;obtain⟨j1,-,j3,j4⟩:=F7 (l:=l) (big:=big) (kind:=0) (by omega) (k+1)
   rw[hlen.out]at j4;have HB:Hid (Cl l k big=if n≤Eg l big 0 (k+1)then n-1 else Eg l big (Au l big (Eg l big 0 (k+1))) (Eg l big 0 (k+1))-1):=A4 (by unfold Cl;rw[hlen.out])
   have HP:Hid (∀j,j=Eg l big 0 (k+1)→j<n→0<Au l big j):=A4 (fun j e h=>by subst e;exact Uf (by rw[hlen.out];exact h) j3)
   clear j3
   revert HB HP j1 j4
   generalize Eg l big 0 (k+1)=j;intro j1 j4 HB HP;rcases Nat.lt_or_ge j n with h0|h0
   ·rw[if_neg (by omega)]at HB
    have e0:=HP.out j rfl h0;have e1:=(Vx l big j).2;have H4:j<Eg l big (Au l big j) j∧Eg l big (Au l big j) j≤n:=by
     obtain⟨c1,-,c3,c4⟩:=F7 (l:=l) (big:=big) (kind:=Au l big j) (by omega) j
     rw[hlen.out]at c4;refine⟨?_,by omega⟩
     rcases Nat.lt_or_ge j (Eg l big (Au l big j) j)with h|h
     ·exact h
     ·exact absurd (by congr 1;omega) c3
    obtain⟨r1,r2⟩:=H4;have c0:∀i:Nz w2,i.w.cell? ⟨w1.heap.size,0,none⟩=some (.slice A n c):=fun i=>(hb.ext i.h).cell 0
    have c1:∀i:Nz w2,i.w.cell? ⟨w1.heap.size,1,none⟩=some (.bool big):=fun i=>(hb.ext i.h).cell 1
    clear hb HP;go_wp2_with fail
    refine Nr (by kernel_rfl) (by kernel_rfl) ?_
    repeat
     refine wpQuiet_step (fun K hK=>?_)
     go_simp
     first
      |(refine hK _ ?_;clear hK K)
      |(refine⟨_,fun _=>rfl,?_⟩;refine hK _ ?_;clear hK K)
      |(
       apply Exists.intro
       refine⟨fun _=>?_,hK _ ?_⟩
       (first|(go_at_call 108;exact Qg (Gi (hl2.ext (Nz.h _)) _ (by omega) (by omega)))|(go_at_call 107;exact Qg (Mq (hl2.ext (Nz.h _)) j _ (by omega) (by omega) hn)))
       clear hK K)
    refine wpQuiet_nil ?_
    rintro _ ⟨i,rfl⟩;clear c0 c1;go_wp2_with fail
    go_ret2
    exact⟨by rw[HB.out];simp;rw[IntWalk.i64_in _ (by omega)];omega,he.trans i.h⟩
   ·rw[if_pos h0]at HB
    clear hb HP;go_wp2_with fail
    all_goals
     go_ret2
     exact⟨by rw[HB.out];simp;omega,he⟩)
  |(
   have c0:=hb.cell 0;have c1:=hb.cell 1;simp only[List.getElem?_toArray,List.getElem?_cons_zero,List.getElem?_cons_succ]at c0 c1;by_cases hp:0<Au l big k
   ·have hlt:=(Ls (k:=k) rfl (show 0≤Au l big k by omega)).2
    rw[hlen.out]at hlt;obtain⟨r1,-,-,r4⟩:=F7 (l:=l) (big:=big) (kind:=Au l big k) (by omega) k
    rw[hlen.out]at r4;have hF:Hid (Fd l k big=Eg l big 0 (Eg l big (Au l big k) k)):=A4 (by unfold Fd;rw[if_pos hp])
    have HO:=A4 (Mq (big:=big) (hl.ext he) k (Au l big k) (by omega) (by omega) hn)
    go_wp2_with fail
    refine HO.out.mono ?_
    rintro e w3 ⟨rfl,he3⟩;have c2:=he3.cell c0;have c3:=he3.cell c1;have HO2:=A4 (Mq (big:=big) (hl.ext (he.trans he3)) (Eg l big (Au l big k) k) 0 (Int.le_refl _) (by omega) hn)
    clear HO c0 c1;go_wp2_with fail
    refine HO2.out.mono ?_
    rintro e w4 ⟨rfl,he4⟩;clear HO2 c2 c3;go_wp2_with fail
    go_ret2
    exact⟨by rw[hF.out];rfl,(he.trans he3).trans he4⟩
   ·have hF:Hid (Fd l k big=Eg l big 0 k):=A4 (by unfold Fd;rw[if_neg hp])
    have HO:=A4 (Mq (big:=big) (hl.ext he) k 0 (Int.le_refl _) (by omega) hn)
    go_wp2_with fail
    refine HO.out.mono ?_
    rintro e w3 ⟨rfl,he3⟩;clear HO c0 c1;go_wp2_with fail
    go_ret2
    exact⟨by rw[hF.out];rfl,he.trans he3⟩)):p:=h
theorem zK (h:p:=by
 have HQ:Hid (Au l big t≠Au l big k):=A4 (by rw[Kh (by rw[hlen.out];omega),hkk.out];have:=(Le (gI l k) big).1;omega)
 obtain rfl:t=n:=by omega
 have HR:Hid (Eg l big (Au l big k) k=t):=A4 (Pz (by rw[hkk.out];exact(Le _ _).1) ht1 hall2.out HQ.out)
 have f2:=hb1.frozen 0;have f3:=hb1.frozen 1;have c4:=hb1.cell 0;have c5:=hb1.cell 1;simp only[List.getElem?_toArray,List.getElem?_cons_zero,List.getElem?_cons_succ]at c4 c5;go_wp2_with fail
 first
  |(
   guard_hyp N1
   have hbf:An ((wr.setCell ⟨w.heap.size,0,none⟩ (.int .i64 ((g:Int)+1))).setCell ⟨w.heap.size,1,none⟩ (.int .i64 t)) w.heap.size 213 #[.int .i64 ((g:Int)+1),.int .i64 t]:=by
    simpa using(hb1.set_ 0 (.int .i64 ((g:Int)+1))).set_ 1 (.int .i64 t))
  |(
   have hbf:An ((wr.setCell ⟨w.heap.size,0,none⟩ (.int .i64 0)).setCell ⟨w.heap.size,1,none⟩ (.int .i64 t)) w.heap.size 213 #[.int .i64 0,.int .i64 t]:=by
    simpa using(hb1.set_ 0 (.int .i64 0)).set_ 1 (.int .i64 t))
 have c6:=hbf.cell 0;have c7:=hbf.cell 1;simp only[List.getElem?_toArray,List.getElem?_cons_zero,List.getElem?_cons_succ]at c6 c7;clear c4 c5 f2 f3 c0 c1 hbf;rw[HFL.out,HR.out];refine bodyPost_ret (by simp[results,Tryz.results147,go_sem,c6,c7];try rfl) rfl ?_
 exact⟨rfl,(he.setCell (by simp) _).setCell (by simp) _⟩):p:=h
theorem yH (h:p:=by
 first
  |(
   guard_hyp N1
   clear hb)
  |(
   guard_hyp N2
   obtain⟨rfl,hb2⟩:m=true∧200<q+n:=by rcases hb with hb|hb;exact absurd hb hb1;exact hb
   have hx:(200:Int)-n<q:=by omega
   have hn2:n≤200:=by omega
   clear hb hb1 hb2)
  |(
   have HN:=fun w=>A4 (Vt w h)
   clear h;obtain⟨H1,H2,H3⟩:=P7 w cs 40;have h2:=A4 H2;have h3:=A4 H3;clear H1 H2 H3)
 go_enter Tryz.func145,Tryz.ntmps145
 go_wp2_with fail
 refine((HN _).out).mono ?_
 rintro e w1 ⟨rfl,rfl⟩;clear HN
 first
  |(
   guard_hyp N0
   go_wp2_with (refine wpList_store_row rfl 40 (.tmp 6) (.tmp 20) rfl (w.heap.size+1) Bw rfl rfl 40 Bw h2.out (Cu Mu) rfl Ud ?_))
  |(
   go_wp2_with (refine wpList_store_row rfl 40 (.tmp 6) (.tmp 37) rfl (w.heap.size+1) Bw rfl rfl 40 Bw h2.out (Cu Mu) rfl Ud ?_))
 have hres:=h2.out.setRow Bw
 first
  |(
   guard_hyp N0
   refine bodyPost_ret (v:=.tuple #[.agg Bw,.int .i64 9]) ?_ rfl ⟨rfl,h3.out.setRow (Nat.le_succ _) _⟩)
  |(
   refine bodyPost_ret (v:=.tuple #[.agg Bw,.int .i64 2]) ?_ rfl ⟨rfl,h3.out.setRow (Nat.le_succ _) _⟩)
 exact Dx rfl _ _ (w.heap.size+1) 40 _ _ _ _ rfl rfl hres Tryz.underlying40 rfl (Cu Mu)):p:=h
theorem zJ (h:p:=by
 first
  |(
   guard_hyp N1
   have hv:=A4 (show Lo l kn j=32 by unfold Lo;rw[if_neg (by rw[hlen.out];omega)])
   go_wp2_with (at_builtin;refine Ci rfl (.tmp 50) (.tmp 52) 27 rfl w (w.heap.size+2) 3 i0 (.int .i64 0) 1 8 Tryz.underlying27 hi hz0 hz1 hz2 rfl (by decide) B j d _ rfl hown #[.int .i64 (32)] rfl ?_ rfl ?_ ?_ he (by omega) hbs ?_))
  |(
   have hv:=A4 (show Lo l kn j=Ps (gI l (kn+j))by unfold Lo;rw[if_pos (by rw[hlen.out];omega)];congr 2)
   obtain⟨ad,rfl,hc⟩:=hl.at_ hin;have ca:=he.cell (hc _ hin);clear hc;go_wp2_with fail
   refine(sU _ _).mono ?_
   rintro e w1 ⟨rfl,rfl⟩;clear ca;go_wp2_with (at_builtin;refine Ci rfl (.tmp 50) (.tmp 52) 27 rfl w (w.heap.size+2) 3 i0 (.int .i64 0) 1 8 Tryz.underlying27 hi hz0 hz1 hz2 rfl (by decide) B j d _ rfl hown #[.int .i64 (Ps (gI l (kn+j)))] rfl ?_ rfl ?_ ?_ he (by omega) hbs ?_))
 ·rfl
 ·unfold maxLen;omega
 ·omega
 ·intro B' d2 w2 hown' hgr _ he'
  have hown2:Av w2 (w.heap.size+2) B' (j+1) d2 (Hw l kn (j+1)):=by
   rw[gR,hv.out];simpa[Av]using hown'
  have g0:=hb0.grown hgr (fun e=>by have:=(Ay.blk hown _ e.symm).1;omega)
  have g1:=hb1.grown hgr (fun e=>by have:=(Ay.blk hown _ e.symm).1;omega)
  have f1:=g1.frozen 0;have c3:=g1.cell 0;simp only[List.getElem?_toArray,List.getElem?_cons_zero,List.getElem?_cons_succ]at c3;clear hown hown' hgr he c1 hb0 hb1 f1';go_wp2_with fail
  exact⟨⟨j+1,B',d2,by omega,by go_num,(g0.keepCell (by simp) _),by simpa using g1.set_ 0 (.slice B' (j+1) d2),Ay.setCell hown2 (by simp) _,he'.setCell (by simp) _⟩,by simp[intOf];omega⟩):p:=h
theorem zI (h:p:=by
 go_wp2_with fail
 refine(HPt.out _ _ _ _ _ _ _ HM0.out).mono ?_
 rintro en w1 ⟨⟨u,rfl⟩,cs1,e1,hm1,hmk⟩;clear u31 u1 u35 v35;have HM1:=A4 hm1;have HMK:=A4 hmk
 first
  |(
   guard_hyp N1
   have y31:w1.cell? ⟨g,31,none⟩=some (.int .i64 99):=hm1.cell (by omega) HC.out.2)
  |(
   have y31:w1.cell? ⟨g,31,none⟩=some (.int .i64 100):=hm1.cell (by omega) HC.out.2)
 have c65:=hm1.mode;have f65:=hm1.blk.frozen 65;have hm2:=hm1.setMode 0;obtain⟨B,d,c34,ho⟩:=hm2.text;have c35:=hm2.oat;have f35:=hm2.blk.frozen 35;clear ho;obtain⟨L,hL⟩:∃L,M.length=L:=⟨_,rfl⟩;have hL2:L≤200:=by rw[←hL];exact HN.out
 have HLL:=A4 hL;rw[hL]at c34;have HM2:=A4 hm2;clear hm1 hmk hm2 hL;go_wp2_with fail
 refine(U2 (f:Int) (L:Int) _ (by omega) (by omega)).mono ?_
 rintro en w2 ⟨rfl,rfl⟩;obtain⟨z,hz⟩:∃z:Int,max 0 (min (f:Int) ((L:Int)-1))=z:=⟨_,rfl⟩;rw[hz];have hm3:=HM2.out.setAt z;have z31:=hm3.cell (k:=31) (by omega) HC.out.2
 first
  |(
   guard_hyp N1
   have d65:=hm3.mode;have g65:=hm3.blk.frozen 65;have hm4:=hm3.setMode 1;have d35:=hm4.oat;have g35:=hm4.blk.frozen 35;have HM5:=A4 (hm4.setAt (f:Int)))
  |(
   have HM5:=A4 hm3)
 have HZ:=A4 hz
 first
  |(
   guard_hyp N1
   clear hm3 hm4 hz HM1 HM2)
  |(
   clear hm3 hz HM1 HM2)
 go_wp2_with fail
 go_ret
 first
  |(
   guard_hyp N1
   exact HM5.out.done ⟨_,_,_,_,_,HM5.out.out,fun _=>rfl,HRL.out,.inr ⟨by decide,HMm.out.symm,HMK.out,.inl ⟨rfl,rfl,rfl⟩⟩⟩)
  |(
   exact HM5.out.done ⟨_,_,_,_,_,HM5.out.out,fun h=>absurd h (by omega),HRL.out,.inr ⟨by decide,HMm.out.symm,HMK.out,.inr ⟨by decide,rfl,by rw[HLL.out];exact HZ.out.symm⟩⟩⟩)):p:=h
theorem yG (h:p:=by
 first
  |(
   guard_hyp N1
   have HNF:=A4 hk3;have q0:(k3==0)=false:=by simp;omega
   have q1:(k3==100)=false:=by simp;omega
   have q2:(k3==99)=false:=by simp;omega
   have q3:(k3==121)=false:=by simp;omega
   have B4:=A4 (C4.out.ext HE.out);have HX4:=A4 (CX.out.trans HE.out);clear hk3)
  |guard_hyp N2
  |(
   have HNF:=A4 hfk;have q0:(fk==0)=false:=by simp;omega
   have q1:(fk==102)=false:=by simp;omega
   have q2:(fk==70)=false:=by simp;omega
   have q3:(fk==116)=false:=by simp;omega
   have q4:(fk==84)=false:=by simp;omega
   have B4:=A4 (C4.out.ext HE.out);have HX4:=A4 (CX.out.trans HE.out);clear hfk)
 go_wp2_with (refine wpList_store_row rfl 161 (.tmp 8) _ rfl (w.heap.size+1+1+1+1) Fi rfl rfl 161 Fi B4.out (Ge rfl) rfl Qa ?_)
 have hres:=B4.out.setRow Fi
 first
  |(
   guard_hyp N1
   refine bodyPost_ret (v:=.tuple #[.agg Fi,.int .i64 9]) ?_ rfl ⟨Al.setRow HX4.out (by omega) _,.inl ⟨fun h=>HNF.out h.1.2,9,by decide,rfl⟩⟩)
  |(
   guard_hyp N2
   refine bodyPost_ret (v:=.tuple #[.agg Fi,.int .i64 er]) ?_ rfl ⟨Al.setRow HX4.out (by omega) _,.inl ⟨fun h=>her (HNo.out h.2),er,her,rfl⟩⟩)
  |(
   refine bodyPost_ret (v:=.tuple #[.agg Fi,.int .i64 1]) ?_ rfl ⟨Al.setRow HX4.out (by omega) _,.inl ⟨fun h=>HNF.out h.1.1,1,by decide,rfl⟩⟩)
 exact Dx rfl _ _ (w.heap.size+1+1+1+1) 161 _ _ _ _ rfl rfl hres Tryz.underlying161 rfl (Ge rfl)):p:=h
theorem zH (h:p:=by
 have HL:=A4 (Nh k);rw[hl]at HL;clear hl;unfold Ja;simp only;go_enter Tryz.func50,Tryz.ntmps50
 go_wp2_with (go_at_call 88;refine(HL.out _).mono ?_;rintro e w' ⟨rfl,rfl⟩)
 first
  |(
   guard_hyp N1
   obtain⟨_,hB1,hB2,hend⟩:=three (w:=w) (.int .i64 f) (.int .i64 r) (.int .i64 o) (.int .i64 s) (.int .i64 34) (.int .i64 0) (.int .i64 0) (.int .i64 0) (.int .i64 0) (.int .i64 0) (.int .i64 0) (.int .i64 0) (.int .i64 0) (.int .i64 0) (.int .i64 0))
  |(
   obtain⟨_,hB1,hB2,hend⟩:=three (w:=w) (.int .i64 f) (.int .i64 k) (.int .i64 o) (.int .i64 s) (.int .i64 0) (.int .i64 f) (.int .i64 k) (.int .i64 o) (.int .i64 s) (.int .i64 0) (.int .i64 0) (.int .i64 0) (.int .i64 0) (.int .i64 0) (.int .i64 0))
 obtain⟨⟨e0,e1,e2,e3,e4⟩,_⟩:=hB1.five;obtain⟨⟨d0,d1,d2,d3,d4⟩,_⟩:=hB2.five;refine bodyPost_ret (by simp[results,Tryz.results50,go_sem,e0,e1,e2,e3,e4,d0,d1,d2,d3,d4];try rfl) rfl ?_
 exact⟨rfl,hend⟩):p:=h
theorem zG (h:p:=by
 first
  |(
   guard_hyp N1
   clear hcan HN)
  |(
   subst hk0;rw[Dw]at pk bk;have hf1:((1:Int)==n)=true:=hf;clear hcan HN hf)
 go_wp2_with (at_builtin;refine Ci rfl (.tmp 73) (.tmp 78) 27 rfl w1 w1.heap.size 3 i0 (.int .i64 0) 1 8 Tryz.underlying27 hi hz0 hz1 hz2 rfl (by decide) C q c' _ rfl hown _ rfl ?_ rfl ?_ ?_ he2 (Nat.le_refl _) he2.hsize ?_)
 ·rfl
 ·unfold maxLen;omega
 ·omega
 ·intro C2 c2 w2 hown' _ _ he'
  first
   |(
    guard_hyp N1
    have hown2:Av w2 w1.heap.size C2 (q+1) c2 (L6 p s (j+1)):=by
     rw[hposl.out,show(j:Int)+1-n=(j:Int)+1-(kn+1)by have:=HF.out;omega];simpa[Av]using hown')
   |(
    have hown2:Av w2 w1.heap.size C2 (q+1) c2 (L6 p s (j+1)):=by
     rw[hposl.out,show(j:Int)+1-n=(j:Int)by have:=HF.out;omega];simpa[Av]using hown')
  have bk2:=he'.cell bk;clear hown hown' he2 bk;go_wp2_with fail
  go_roundw
  case rel=>exact⟨bl p n,j+1,q+1,C2,c2,hblt,by omega,by omega,rfl,by go_num,rfl,hmx,hown2,he'⟩
  case measure=>simp[intOf];omega):p:=h
theorem zF (h:p:=by
 intro O2 d2 w3 hO2 hgr hor hx3
 first
  |(
   guard_hyp N1
   have hne:(Value.slice O q' d).ownBlock≠some g:=fun e=>by have:=(Ay.blk HOO.out g e).1;omega)
  |(
   have hne:(Value.slice O q d).ownBlock≠some g:=fun e=>by have:=(Ay.blk HOO.out g e).1;omega)
 have hb3:=HBB.out.grown hgr (fun e=>hne e.symm)
 have c1:=hb3.cell 1;have f1:=hb3.frozen 1;simp only[List.getElem?_toArray,List.getElem?_cons_zero,List.getElem?_cons_succ]at c1
 first
  |(
   guard_hyp N1
   have hb4:An (w3.setCell ⟨g,1,none⟩ (.slice O2 (q'+1) d2)) g 83 #[.slice A 0 c,.slice O2 (q'+1) d2]:=by simpa using hb3.set_ 1 (.slice O2 (q'+1) d2)
   have hO4:Av (w3.setCell ⟨g,1,none⟩ (.slice O2 (q'+1) d2)) (g+1) O2 (q'+1) d2 ((out++[65533])++[65533]):=by
    have:=Ay.setCell hO2 (p:=⟨g,1,none⟩) (Nat.lt_succ_self g) (.slice O2 (q'+1) d2)
    simpa[Av]using this)
  |(
   have hb4:An (w3.setCell ⟨g,1,none⟩ (.slice O2 (q+1) d2)) g 83 #[.slice A 0 c,.slice O2 (q+1) d2]:=by simpa using hb3.set_ 1 (.slice O2 (q+1) d2)
   have hO4:Av (w3.setCell ⟨g,1,none⟩ (.slice O2 (q+1) d2)) (g+1) O2 (q+1) d2 (out++[65533]):=by
    have:=Ay.setCell hO2 (p:=⟨g,1,none⟩) (Nat.lt_succ_self g) (.slice O2 (q+1) d2)
    simpa[Av]using this)
 have hA4:=HAZ.out w3 _ hgr (Ay.apart HA0.out HOO.out (by decide))
 first
  |(
   guard_hyp N1
   have HX:=A4 (hx3.setCell (p:=⟨g,1,none⟩) hg (.slice O2 (q'+1) d2));have HF:Hid (Es (w3.setCell ⟨g,1,none⟩ (.slice O2 (q'+1) d2)) g ⟨[],(out++[65533])++[65533]⟩):=A4 ⟨A,0,c,O2,q'+1,d2,hb4,Ay.setCell hA4 (p:=⟨g,1,none⟩) (Nat.lt_succ_self g) _,hO4⟩)
  |(
   have HX:=A4 (hx3.setCell (p:=⟨g,1,none⟩) hg (.slice O2 (q+1) d2));have HF:Hid (Es (w3.setCell ⟨g,1,none⟩ (.slice O2 (q+1) d2)) g ⟨[],out++[65533]⟩):=A4 ⟨A,0,c,O2,q+1,d2,hb4,Ay.setCell hA4 (p:=⟨g,1,none⟩) (Nat.lt_succ_self g) _,hO4⟩)
 clear hO2 hgr hor hx3 hb3 hb4 hO4 hA4 hne ho k0 k1 f0;go_wp2_with fail
 refine bodyPost_ret (results_none rfl _ _ _) rfl ?_
 exact⟨rfl,by rw[HR.out];exact HF.out,HX.out⟩):p:=h
theorem zE (h:p:=by
 rcases Nat.lt_or_ge i p with h1|h1
 ·rcases Nat.lt_or_ge i lo with h2|h2
  ·exact P2.1.2.1.2 i hi' (.inl (m4 i (Nat.zero_le _) h2))
  ·rcases Nat.lt_or_ge i hi with h3|h3
   first
    |(
     guard_hyp N1
     ·exact P2.2.2.1.2 i hi' (.inr ⟨h2,h3⟩))
    |(
     ·exact P2.1.2.1.2 i hi' (.inr ⟨h2,h3⟩))
   ·rcases Nat.lt_or_ge i full with h4|h4
    ·exact P2.1.2.1.2 i hi' (.inl (m5 i h3 h4))
    ·exact P2.1.2.1.2 i hi' (.inl (t4 i h4 (by omega)))
 first
  |(
   guard_hyp N1
   ·exact P3.1.2.1.2 i hi' (.inr ⟨h1,hi'⟩))
  |(
   ·exact P2.2.2.1.2 i hi' (.inr ⟨h1,hi'⟩))):p:=h
theorem zD (h:p:=by
 first
  |(
   guard_hyp N1
   have hw:Region.wanted o (yielded ops a.tmps)=true:=by simp[Region.wanted,hgd]
   rw[if_pos hw];have key:wpList P #[] Q [o] a (w1.alloc (.cells us e))=wpList P #[] Q [o] a (w1.alloc (.cells us e)):=rfl;clear key)
  |skip
 have hr:Rd (w1.alloc (.cells us e)) z (some ⟨w1.heap.size,0,none⟩) 1 1 us.toList:=by
  refine⟨by simpa using hu,Nat.le_refl _,by unfold maxLen;omega,fun _=>⟨_,rfl,fun j u hj=>?_⟩⟩
  have e1:(⟨w1.heap.size,0,none⟩:Addr).add j=⟨w1.heap.size,j,none⟩:=by simp[Addr.add_lit]
  rw[e1,(An.new w1 e us).cell j]
  simpa using hj
 first
  |(
   guard_hyp N1
   have hc:∀j u,us.toList[j]? = some u→(w1.alloc (.cells us e)).cell? ((⟨w1.heap.size,0,none⟩:Addr).add j)=some u:=by
    obtain⟨ad',e1,hc⟩:=hr.at_ (k:=0) (by omega)
    injection e1 with e1;subst e1;exact hc
   have hown':=hown.ext (Al.alloc w1 (.cells us e));obtain⟨v',w',hrun,h2,h3,_,h5⟩:=run_append_own_at (P:=P) (w1.alloc (.cells us e)) base t o.type e i zv z bytes ht hi hz hsize hby hzs hsz (.slice A n c) n xs hown' ⟨w1.heap.size,0,none⟩ 1 1 us.toList hr.len hc h1 h63 hbytes (Nat.le_trans hbase (Al.alloc w1 (.cells us e)).hsize);have hv:∃A' c',v'=.slice A' (n+1) c':=by
    exact I78
   obtain⟨A',c',rfl⟩:=hv;unfold Oper.wp execOp;simp only[ho,resolve,invoke,builtin,Sem.run_bind,Sem.run_pure,Result.andThen_ok,List.map_toArray,List.map_cons,List.map_nil,hs,hx,hrun];refine h A' c' w' h2 ⟨h3.os,h3.tape,h3.output,Nat.le_trans (Al.alloc _ _).hsize h3.size,fun k hk hne=>(h3.block k (Nat.lt_of_lt_of_le hk (Al.alloc _ _).hsize) hne).trans (Below.heap_alloc _ _ _ hk)⟩ ?_ (Al.grown (he.to_alloc _) h3 hown' hb)
   rcases h5 with k3|k3)
  |(
   refine Fn hgd s x t ho w0 base e i zv z bytes ht hi hz hsize hby hzs hsz A n c xs hs (hown.ext (Al.alloc _ _)) _ 1 1 us.toList hx hr h1 h63 hbytes (he.to_alloc _) hb (Nat.le_trans hbase (Al.alloc _ _).hsize) ?_
   intro A' c' w' k1 k2 k3 k4;refine h A' c' w' k1 ⟨k2.os,k2.tape,k2.output,Nat.le_trans (Al.alloc _ _).hsize k2.size,fun k hk hne=>(k2.block k (Nat.lt_of_lt_of_le hk (Al.alloc _ _).hsize) hne).trans (Below.heap_alloc _ _ _ hk)⟩ ?_ k4
   rcases k3 with k3|k3)
 ·exact .inl k3
 ·exact .inr ⟨_,(Al.alloc _ _).hsize,k3⟩):p:=h
theorem zC (h:p:=by
 have d2:w.cell? ⟨p,2,none⟩=some (.int .i64 s.mode):=h.ses.blk.cell 2;have d0:w.cell? ⟨p,0,none⟩=some (.pointer v.tr):=h.ses.blk.cell 0
 first
  |(
   guard_hyp N1
   obtain⟨z,hz⟩:∃z:Int,z=(s.tx.length:Int):=⟨_,rfl⟩;have hz0:(0:Int)<z:=by have:=List.length_pos_iff.2 ht;omega
   have HL:Hid (Calls Tryz.prog 30 #[.agg #[.pointer v.tr]] w fun e w'=>e=.returned (.int .i64 z)∧Al w w'):=
    A4 ((Xd h.ses.dat.here.tr).mono fun e w' ⟨h1,h2⟩=>⟨by rw[h1,(Tp (by omega)).2,hz],h2⟩)
   have HTl:Hid (∀wq,Al w wq→Calls Tryz.prog 31 #[.pointer (some ⟨p,0,none⟩)] wq fun e w'=>e=.returned (.tuple #[])∧Br p w col (Fe s) w'):=
    A4 fun wq he=>(Js (h.ext he) (by omega)).mono fun e w' ⟨h1,h2⟩=>⟨h1,Br.trans ⟨he.alt _,fun _ _ h=>h,fun _ _ h=>h⟩ h2⟩
   clear h ht hz)
  |(
   have HL:Hid (Calls Tryz.prog 30 #[.agg #[.pointer v.tr]] w fun e w'=>e=.returned (.int .i64 0)∧Al w w'):=
    A4 ((Xd h.ses.dat.here.tr).mono fun e w' ⟨h1,h2⟩=>⟨by rw[h1,ht];rfl,h2⟩)
   have HTl:Hid (∀wq,Al w wq→Calls Tryz.prog 26 #[.pointer (some ⟨p,0,none⟩),.int .i64 4,.slice none 0 0] wq fun e w'=>e=.returned (.tuple #[])∧Br p w col { s with told:=s.told++[(4,[])] } w'):=
    A4 fun wq he=>(Sn (k:=4) (y:=.slice none 0 0) (l:=[]) (h.ext he) (fun _ w' _ _=>Bg.nil w' 0) (by omega)).mono fun e w' ⟨h1,h2⟩=>⟨h1,Br.trans ⟨he.alt _,fun _ _ h=>h,fun _ _ h=>h⟩ h2⟩
   clear h ht)
 go_enter Tryz.func13,Tryz.ntmps13
 go_wp2_with fail
 refine HL.out.mono ?_
 rintro e w1 ⟨rfl,he⟩;have HX:=A4 he;clear he HL d0 d2;go_wp2_with fail
 refine(HTl.out _ HX.out).mono ?_
 first
  |(
   guard_hyp N1
   rintro e w2 ⟨rfl,hd⟩;have HR:=A4 hd;clear hd HTl)
  |(
   rintro e w2 ⟨rfl,col2,v2,hm2,ht2⟩;have d55:w2.cell? ⟨p,55,none⟩=some (.bool s.over):=hm2.ses.blk.cell 55;have f55:=hm2.ses.blk.frozen 55;have hr:=hm2.chain ((Dh.start (Al.refl _) hm2.ses.blk).set 55 (.bool true)) v2 { { s with told:=s.told++[(4,[])] }with over:=true } (by kernel_rfl) (fun w'' _ ht hd=>⟨hd.1,hd.2,hd.3,hd.4,hd.5,hd.6,hd.7,hd.8⟩)
   have HR:Hid (Br p w col (Xp s) _):=A4 ⟨_,_,hr.1,ht2.trans hr.2⟩;clear hm2 ht2 hr HTl)
 go_wp2_with fail
 first
  |(
   guard_hyp N1
   refine bodyPost_ret (results_none rfl _ _ _) rfl ⟨rfl,HR.out⟩)
  |(
   go_end0
   exact⟨rfl,HR.out⟩)):p:=h
end
