/-
  Part ZFb.
-/
import Derived.Test.YtkaefdmhlmlhbaaGreatZFa
import Derived.OwnWalk
import Derived.IntWalk
import Derived.Deep.Cut
import Derived.Deep.QuietTactic
import Derived.Deep.RegionHeld3
import Derived.Deep.RegionWith
import Derived.Deep.RegionLaw
set_option maxRecDepth 100000
set_option maxHeartbeats 16000000
set_option linter.unusedVariables false
set_option linter.unusedSimpArgs false
namespace Go.Proofs.YtkaefdmhlmlhbaaGreat
open Go.RowKit
section
variable {p:Prop}
theorem K0 (h:p:=by
 first
  |(
   guard_hyp N1
   have QU:Vk c.op c.verb=false:=by simpa using nz
   rw[QU];have LO:C6 p W2 col (Fe s c) W2:=⟨col,v,by unfold Fe;rw[if_neg nz];exact H.out.ext (HW.out.trans pu.out),Km.refl _ _⟩
   obtain⟨W4,US⟩:∃x,x=W2:=⟨_,rfl⟩;have RN:Hid (C6 p W2 col (Fe s c) W4):=A6 (by rw[US];exact LO)
   clear LO nz QU)
  |(
   rw[nz];have HCB:=A6 nz;clear nz;go_wp2_with fail
   refine(LP.out W2 (HW.out.trans pu.out)).mono ?_
   rintro e' W3 ⟨rfl,col3,v3,dt,DC⟩;have qf:Aq W3 w.heap.size 62 (Pe c):=DC.1.blk (HC.out.ext pu.out) fun hn=>hn.1 (H.out.ses.lt (Nat.le_refl _))
   have e0:W3.cell? ⟨w,0,none⟩=some (.int .i64 c.count):=qf.cell 0;have e1:W3.cell? ⟨w,1,none⟩=some (.int .i64 c.reg):=qf.cell 1;have e2:W3.cell? ⟨w,2,none⟩=some (.int .i64 c.op):=qf.cell 2;have e3:W3.cell? ⟨w,3,none⟩=some (.int .i64 c.verb):=qf.cell 3;have e4:W3.cell? ⟨w,4,none⟩=some (.int .i64 c.arg):=qf.cell 4;have UT:=An.alloc W3 (.cells #[c.count,c.reg,c.op,c.verb,c.arg,()] 166);have d47:(W3.alloc (.cells #[c.count,c.reg,c.op,c.verb,c.arg,()] 166)).cell? ⟨p,47,none⟩=some (.pointer v3.now):=(dt.ses.blk.ext UT).cell 47;have f47:(W3.alloc (.cells #[c.count,c.reg,c.op,c.verb,c.arg,()] 166)).frozen? ⟨p,47,none⟩=false:=(dt.ses.blk.ext UT).frozen 47;clear UT;have LO:C6 p W2 col (Fe s c) ((W3.alloc (.cells #[c.count,c.reg,c.op,c.verb,c.arg,()] 166)).setCell ⟨p,47,none⟩ (some W3.heap.size)):=
    C6.trans DC (by unfold Fe;rw[if_pos HCB.out];exact dt.chg c)
   have RN:=A6 LO;clear qf dt DC LO)
 go_upto_region 8 with fail
 first
  |(
   guard_hyp N1
   rw[←US];clear US)
  |(
   clear e0 e1 e2 e3 e4 d47 f47;generalize World.setCell (World.alloc _ _) _ _=W4 at *)
 obtain⟨col4,v4,kf,p9⟩:=RN.out;obtain⟨eo,ai,col5,vj,FN,LQ⟩:=J4w H.out (HW.out.trans pu.out) (mp.out.ext pu.out) HZ5.out (UU.out.ext pu.out) kf p9
 first
  |(
   guard_hyp N1
   clear kf p9 RN UV LR LP ot HC HP mp UU pu)
  |(
   clear kf p9 RN HCB UV LR LP ot HC HP mp UU pu)
 obtain⟨s4,my⟩:∃x,x=Fe s c:=⟨_,rfl⟩;rw[←my]at vj;have AO:=A6 my;have UW:=A6 FN;have qh:=A6 vj;have JH:=A6 LQ;have hpd:=vj.ses.blk;clear my FN vj LQ;refine wp_region_held_drew (S:=fun w'=>Aq w' g5 77 (qY B q k r e d)) (by kernel_rfl) eo (fun hS=>?_)
 refine Bf (i:=0) (v:=some p) rfl hS ?_
 refine Bf (i:=1) (v:=some p) rfl hS ?_
 refine Bf (i:=2) (v:=some p) rfl hS ?_
 refine Bf (i:=3) (v:=(.pointer (some ⟨g5,2,none⟩))) rfl hS ?_
 refine Ga (i:=4) (v:=(.agg (Mz r))) rfl (fun w' ag=>by exact Dy 38 (.tmp 39) rfl g5 2 27 rfl ag (by kernel_rfl) Tryz.underlying38 rfl (by kernel_rfl)) hS ?_
 refine Bf (i:=5) (v:=(.pointer (some ⟨g5,29,none⟩))) rfl hS ?_
 refine Ga (i:=6) (v:=(.agg #[d.fk,d.fa])) rfl (fun w' ag=>by exact Dy 36 (.tmp 41) rfl g5 29 2 rfl ag (by kernel_rfl) Tryz.underlying36 rfl (by kernel_rfl)) hS ?_
 refine Bf (i:=7) (v:=(.pointer (some ⟨g5,31,none⟩))) rfl hS ?_
 refine Ga (i:=8) (v:=d.md) rfl (fun w' ag=>by have e0:w'.cell? ⟨g5,31,none⟩=some (.int .i64 d.md):=ag.cell 31;go_simp) hS ?_
 refine Bf (i:=9) (v:=some p) rfl hS ?_
 refine Bf (i:=10) (v:=(.pointer (some ⟨p,3,none⟩))) rfl hS ?_
 have cc:=E5.start (An.drew W4) (hpd.ext (An.drew W4));generalize W4.drew=cur4 at*;refine wpAnyH_ready (rs:=[11]) (by decide +kernel) (by simp) (AllReadyH.cons rfl (fun K hK=>?_) AllReadyH.nil)
 refine Ca rfl 38 (.tmp 46) (.tmp 40) rfl p 3 (Mz r) rfl rfl 100 _ cc.blk (by kernel_rfl) (by show 3+27≤58;decide) cm ?_
 refine hK.out _ _ (hS.setRow_other _ (fun e=>ai e.symm)) (fun ao=>?_)
 replace hS:=ao;clear hK K ao;replace cc:=cc.row (L0 (Nn v4 s4) 3 (Mz r));generalize World.setRow _ _ _=W6 at*
 try simp only[List.getElem_toArray,List.getElem_cons_zero,List.getElem_cons_succ,Act.put,List.setIfInBounds_toArray,List.set_cons_zero,List.set_cons_succ]
 refine Bf (i:=12) (v:=some p) rfl hS ?_
 refine Bf (i:=13) (v:=(.pointer (some ⟨p,30,none⟩))) rfl hS ?_
 have g30:W6.cell? ⟨p,30,none⟩=some (.int .i64 s4.fk):=cc.blk.cell 30;have g31:W6.cell? ⟨p,31,none⟩=some (.int .i64 s4.fa):=cc.blk.cell 31;have f30:=cc.blk.frozen 30;have f31:=cc.blk.frozen 31;refine wpAnyH_ready (rs:=[14]) (by decide +kernel) (by simp) (AllReadyH.cons rfl (fun K hK=>?_) AllReadyH.nil)
 go_simp
 refine hK.out _ _ (Wg (Wg hS ai 30 _) ai 31 _) (fun ao=>?_)
 replace hS:=ao;clear hK K ao g30 g31 f30 f31;replace cc:=(cc.set 30 (.int .i64 d.fk)).set 31 (.int .i64 d.fa);generalize World.setCell (World.setCell _ _ _) _ _=W7 at*
 try simp only[List.getElem_toArray,List.getElem_cons_zero,List.getElem_cons_succ,Act.put,List.setIfInBounds_toArray,List.set_cons_zero,List.set_cons_succ]
 refine Bf (i:=15) (v:=some p) rfl hS ?_
 refine Bf (i:=16) (v:=(.pointer (some ⟨p,2,none⟩))) rfl hS ?_
 have g2:W7.cell? ⟨p,2,none⟩=some (.int .i64 s4.mode):=cc.blk.cell 2;have f2:=cc.blk.frozen 2;refine wpAnyH_ready (rs:=[17]) (by decide +kernel) (by simp) (AllReadyH.cons rfl (fun K hK=>?_) AllReadyH.nil)
 go_simp
 refine hK.out _ _ (Wg hS ai 2 _) (fun ao=>?_)
 replace hS:=ao;clear hK K ao g2 f2;replace cc:=cc.set 2 (.int .i64 d.md);generalize World.setCell _ _ _=W8 at*;refine wpAnyH_done (by kernel_rfl) ?_ _
 have HE:=A6 (qh.out.chainD JH.out cc { v4 with r:=r } { s4 with rl:=d.rl,fk:=d.fk,fa:=d.fa,mode:=d.md } (by kernel_rfl) (fun w'' ou AP hv=>⟨hv.1,hv.2,⟨rfl,fun i hi=>⟨r i,Qk r i hi,AP.regs i hi⟩⟩,hv.4,hv.5,hv.6,hv.7,hv.8⟩))
 have e0:W8.cell? ⟨g5,0,none⟩=some (.slice B q k):=hS.cell 0;have e1:W8.cell? ⟨g5,1,none⟩=some (.int .i64 d.at_):=hS.cell 1;have UX:Ba W8 0 B q k d.tx:=(JH.out _ _ cc.alt fun k1 h1 h2 h3=>by have h7:=qh.out.ses.own;rw[h3]at h2;omega).text
 have DD:=A6 (fQ (a:=d.at_) HE.out.1 UX.ints (by rw[←UX.ints.len];exact HZ.out d HD.out))
 clear UX hpd cc hS qh JH;go_wp2_with fail
 refine DD.out.mono ?_
 rintro e' W9 ⟨rfl,tq,ei,ou⟩;have FO:=A6 (UW.out.trans (HE.out.2.trans ou));have ei:Dm W9 col5 p { { v4 with r:=r }with tr:=tq } (Gl s4 d):=ei;have d2:W9.cell? ⟨p,2,none⟩=some (.int .i64 d.md):=ei.ses.blk.cell 2;have d46:W9.cell? ⟨p,46,none⟩=some (.pointer v4.last):=ei.ses.blk.cell 46;have d47:W9.cell? ⟨p,47,none⟩=some (.pointer v4.now):=ei.ses.blk.cell 47;have fz:=ei.ses.blk.frozen;have lk:=A6 ei;have ic:Hid (Hq s c d=L3 (Gl s4 d)):=A6 (by rw[AO.out];rfl)
 clear ou DD HE e0 e1 ei;by_cases dw:d.md=0
 ·rw[dw]at d2
  have HMD:=A6 dw;have hN:=lk.out.ses.now;clear dw;cases hv:v4.now with
  |none=>
   rw[hv]at d47;have qp:(Gl s4 d).now=none:=by
    have hN:S8 W9 col5 v4.now (Gl s4 d).now:=hN;rw[hv]at hN;rcases hs:(Gl s4 d).now with _|⟨c',l'⟩
    ·rfl
    ·rw[hs]at hN;exact absurd hN (fun h=>h)
   have HR:Hid (C6 p w col (Hq s c d) W9):=A6 (by rw[ic.out,hU qp];exact⟨_,_,lk.out,FO.out⟩)
   clear hN qp;go_wp2_with fail
   go_ret
   exact .inr ⟨d,HD.out,rfl,HR.out⟩
  |some qa=>
   rw[hv]at d47;have qp:((Gl s4 d).now.or (Gl s4 d).last)=(Gl s4 d).now:=by
    have hN:S8 W9 col5 v4.now (Gl s4 d).now:=hN;rw[hv]at hN;rcases hs:(Gl s4 d).now with _|⟨c',l'⟩
    ·rw[hs]at hN;exact absurd hN (fun h=>h)
    ·rfl
   have c3:=((E5.start (An.refl W9) lk.out.ses.blk).set 46 (.pointer (some qa))).set 47 (.pointer none);have hl:=dA (v':={ { { v4 with r:=r }with tr:=tq }with last:=some qa,now:=none }) (s':={ Gl s4 d with last:=(Gl s4 d).now.or (Gl s4 d).last,now:=none }) lk.out hv c3.alt (c3.to (by kernel_rfl)) (fun w'' _ ht hc hd=>⟨hd.1,hd.2,hd.3,hd.4,hd.5,by rw[qp];have hc:Ys w'' v4.now _:=hc;rw[hv]at hc;exact hc,hd.7,hd.8⟩)
   have HR:=A6 (C6.trans FO.out hl);have HQ:Hid (Hq s c d={ Gl s4 d with last:=(Gl s4 d).now.or (Gl s4 d).last,now:=none }):=A6 (by rw[ic.out];exact if_pos HMD.out)
   clear hN qp c3 hl;go_wp2_with fail
   go_ret
   refine .inr ⟨d,HD.out,rfl,?_⟩
   rw[HQ.out];exact HR.out
 ·have LS:(d.md==0)=false:=by simpa using dw
  have HR:Hid (C6 p w col (Hq s c d) W9):=A6 (by rw[ic.out,show L3 (Gl s4 d)=Gl s4 d from if_neg dw];exact⟨_,_,lk.out,FO.out⟩)
  clear dw;go_wp2_with fail
  go_ret
  exact .inr ⟨d,HD.out,rfl,HR.out⟩):p:=h
theorem K1 (h:p:=by
 first
  |(
   guard_hyp N1
   have hk:k4=44:=by simpa using ‹(k4==44)=true›)
  |(
   have hk:k4=59:=by simpa using ‹(k4==59)=true›)
 have hf:¬fk=0:=by simpa using ‹(fk==0)=false›
 subst hk;have q0:=B7.out.frozen 0;have q2:=B7.out.frozen 2;clear x0 x1 y0 y1 y2 y3 y4;have b7:=B7.out.ext (An.drew W0);have b2:=B2.out.ext (An.drew W0);have b3:=B3.out.ext (An.drew W0);have b4:=B4.out.ext (An.drew W0);have b5:=B5.out.ext (An.drew W0);have m0:=(Hp b7).1;have f0:=b7.frozen 0;have b7a:Aq (W0.setCell ⟨w.heap.size+1+1+1+1,0,none⟩ fk).drew (w.heap.size+1+1+1+1) 185 #[.int .i64 fk,.int .i64 k1,.int .i64 k5]:=b7.set_ 0 _;have m2:=(Hp b7a).2.2;have f2:=b7a.frozen 2;have b7b:Aq ((W0.setCell ⟨w.heap.size+1+1+1+1,0,none⟩ fk).setCell ⟨w.heap.size+1+1+1+1,2,none⟩ fa).drew (w.heap.size+1+1+1+1) 185 #[.int .i64 fk,.int .i64 k1,.int .i64 fa]:=b7a.set_ 2 _;have b2a:Aq (W0.setCell ⟨w.heap.size+1+1+1+1,0,none⟩ fk).drew (w.heap.size) 36 #[.int .i64 fk,.int .i64 fa]:=Bn b2 (show w.heap.size+1+1+1+1≠w.heap.size by omega) 0 (.int .i64 fk)
 have LU:=A6 (Fh b2);have hSb:=A6 (Fh b2a);have b2c:Aq ((W0.setCell ⟨w.heap.size+1+1+1+1,0,none⟩ fk).setCell ⟨w.heap.size+1+1+1+1,2,none⟩ fa).drew (w.heap.size) 36 #[.int .i64 fk,.int .i64 fa]:=Bn b2a (show w.heap.size+1+1+1+1≠w.heap.size by omega) 2 (.int .i64 fa)
 have RO:=A6 (Fh b2c);clear b2c;have C2:Hid (Aq ((W0.setCell ⟨w.heap.size+1+1+1+1,0,none⟩ fk).setCell ⟨w.heap.size+1+1+1+1,2,none⟩ fa).drew (w.heap.size) 36 #[.int .i64 fk,.int .i64 fa]):=A6 (Bn (Bn b2 (show w.heap.size+1+1+1+1≠w.heap.size by omega) 0 (.int .i64 fk)) (show w.heap.size+1+1+1+1≠w.heap.size by omega) 2 (.int .i64 fa))
 first
  |(
   guard_hyp N1
   have C3:Hid (Aq ((W0.setCell ⟨w.heap.size+1+1+1+1,0,none⟩ fk).setCell ⟨w.heap.size+1+1+1+1,2,none⟩ fa).drew (w.heap.size+1) 62 #[.int .i64 k1,.int .i64 k2,.int .i64 k3,.int .i64 44,.int .i64 k5]):=A6 (Bn (Bn b3 (show w.heap.size+1+1+1+1≠w.heap.size+1 by omega) 0 (.int .i64 fk)) (show w.heap.size+1+1+1+1≠w.heap.size+1 by omega) 2 (.int .i64 fa)))
  |(
   have C3:Hid (Aq ((W0.setCell ⟨w.heap.size+1+1+1+1,0,none⟩ fk).setCell ⟨w.heap.size+1+1+1+1,2,none⟩ fa).drew (w.heap.size+1) 62 #[.int .i64 k1,.int .i64 k2,.int .i64 k3,.int .i64 59,.int .i64 k5]):=A6 (Bn (Bn b3 (show w.heap.size+1+1+1+1≠w.heap.size+1 by omega) 0 (.int .i64 fk)) (show w.heap.size+1+1+1+1≠w.heap.size+1 by omega) 2 (.int .i64 fa)))
 have C4:Hid (Aq ((W0.setCell ⟨w.heap.size+1+1+1+1,0,none⟩ fk).setCell ⟨w.heap.size+1+1+1+1,2,none⟩ fa).drew (w.heap.size+1+1) 185 #[.int .i64 0,.int .i64 0,.int .i64 0]):=A6 (Bn (Bn b4 (show w.heap.size+1+1+1+1≠w.heap.size+1+1 by omega) 0 (.int .i64 fk)) (show w.heap.size+1+1+1+1≠w.heap.size+1+1 by omega) 2 (.int .i64 fa))
 have C5:Hid (Aq ((W0.setCell ⟨w.heap.size+1+1+1+1,0,none⟩ fk).setCell ⟨w.heap.size+1+1+1+1,2,none⟩ fa).drew (w.heap.size+1+1+1) 36 #[.int .i64 0,.int .i64 0]):=A6 (Bn (Bn b5 (show w.heap.size+1+1+1+1≠w.heap.size+1+1+1 by omega) 0 (.int .i64 fk)) (show w.heap.size+1+1+1+1≠w.heap.size+1+1+1 by omega) 2 (.int .i64 fa))
 have C7:=A6 b7b;have CX:Hid (An w ((W0.setCell ⟨w.heap.size+1+1+1+1,0,none⟩ fk).setCell ⟨w.heap.size+1+1+1+1,2,none⟩ fa).drew):=A6 (An.setCell (An.setCell (HX.out.trans (An.drew W0)) (p:=⟨w.heap.size+1+1+1+1,0,none⟩) (show w.heap.size≤w.heap.size+1+1+1+1 by omega) (.int .i64 fk)) (p:=⟨w.heap.size+1+1+1+1,2,none⟩) (show w.heap.size≤w.heap.size+1+1+1+1 by omega) (.int .i64 fa))
 clear b2 b3 b4 b5 b7 b7a b7b b2a B2 B3 B4 B5 B7 HX;refine wp_region_held_drew (S:=fun w'=>w'.cell? ⟨w,0,none⟩=some (.int .i64 fk)∧w'.cell? ⟨w,1,none⟩=some (.int .i64 fa)) (by kernel_rfl) LU.out (fun aa=>?_)
 refine Bv (i:=0) (v:=some w.heap.size) rfl aa ?_
 refine Bv (i:=1) (v:=fk) rfl aa ?_
 refine Bv (i:=2) (v:=(.pointer (some ⟨w,1,none⟩))) rfl aa ?_
 refine Bv (i:=3) (v:=fa) rfl aa ?_
 refine Bv (i:=4) (v:=(.pointer (some ⟨w.heap.size+1+1+1+1,0,none⟩))) rfl aa ?_
 refine wpAnyH_ready (rs:=[5]) (by kernel_rfl) (by simp) ?_
 refine AllReadyH.cons rfl (fun K hK=>?_) AllReadyH.nil
 go_simp
 refine hK.out _ _ hSb.out (fun af=>?_)
 clear hK K aa
 try simp only[List.getElem_toArray,List.getElem_cons_zero,List.getElem_cons_succ,Act.put,List.setIfInBounds_toArray,List.set_cons_zero,List.set_cons_succ]
 refine Bv (i:=6) (v:=(.pointer (some ⟨w.heap.size+1+1+1+1,2,none⟩))) rfl af ?_
 refine wpAnyH_ready (rs:=[7]) (by kernel_rfl) (by simp) ?_
 refine AllReadyH.cons rfl (fun K hK=>?_) AllReadyH.nil
 go_simp
 refine hK.out _ _ RO.out (fun bb=>?_)
 clear hK K af
 try simp only[List.getElem_toArray,List.getElem_cons_zero,List.getElem_cons_succ,Act.put,List.setIfInBounds_toArray,List.set_cons_zero,List.set_cons_succ]
 refine wpAnyH_done (by kernel_rfl) ?_ _
 clear m0 m2 f0 f2 LU hSb RO q0 q2 z0 z1 z2;generalize ((W0.setCell ⟨w.heap.size+1+1+1+1,0,none⟩ fk).setCell ⟨w.heap.size+1+1+1+1,2,none⟩ fa).drew=W2 at*;have y3:=(Vs C3.out).2.2.2.1
 first
  |(
   guard_hyp N1
   have z0:=(Hp C7.out).1;have g0:=C7.out.frozen 0)
  |skip
 go_upto_region 15 with fail
 first
  |(
   guard_hyp N1
   have D7:Hid (Aq (W2.setCell ⟨w.heap.size+1+1+1+1,0,none⟩ (.int .i64 (bits .xor .i64 fk 32))) (w.heap.size+1+1+1+1) 185 #[.int .i64 (bits .xor .i64 fk 32),.int .i64 k1,.int .i64 fa]):=A6 (C7.out.set_ 0 _);have D2:=A6 (Bn C2.out (show w.heap.size+1+1+1+1≠w.heap.size by omega) 0 (.int .i64 (bits .xor .i64 fk 32)))
   have D4:=A6 (Bn C4.out (show w.heap.size+1+1+1+1≠w.heap.size+1+1 by omega) 0 (.int .i64 (bits .xor .i64 fk 32)))
   have D5:=A6 (Bn C5.out (show w.heap.size+1+1+1+1≠w.heap.size+1+1+1 by omega) 0 (.int .i64 (bits .xor .i64 fk 32)))
   have DX:=A6 (An.setCell CX.out (p:=⟨w.heap.size+1+1+1+1,0,none⟩) (show w.heap.size≤w.heap.size+1+1+1+1 by omega) (.int .i64 (bits .xor .i64 fk 32)))
   clear C2 C3 C4 C5 C7 CX y3 z0 g0;generalize (W2.setCell ⟨w.heap.size+1+1+1+1,0,none⟩ (.int .i64 (bits .xor .i64 fk 32)))=W3 at*;have ag:∀wx,Aq wx (w.heap.size+1+1+1+1) 185 #[.int .i64 (bits .xor .i64 fk 32),.int .i64 k1,.int .i64 fa]→Aq wx (w.heap.size) 36 #[.int .i64 fk,.int .i64 fa]→wx.cell? ⟨w.heap.size+1+1+1+1,0,none⟩=some (.int .i64 (bits .xor .i64 fk 32))∧wx.cell? ⟨w.heap.size+1+1+1+1,1,none⟩=some (.int .i64 k1)∧wx.cell? ⟨w.heap.size+1+1+1+1,2,none⟩=some (.int .i64 fa)∧wx.cell? ⟨w,0,none⟩=some (.int .i64 fk)∧wx.cell? ⟨w,1,none⟩=some (.int .i64 fa):=fun wx h7 h2=>⟨(Hp h7).1,(Hp h7).2.1,(Hp h7).2.2,(Fh h2).1,(Fh h2).2⟩
   have tu:=A6 (ag _ (D7.out.ext (An.drew W3)) (D2.out.ext (An.drew W3)));have JI:=A6 (ag _ (Aq.setRow_other (D7.out.ext (An.drew W3)) #[.int .i64 (bits .xor .i64 fk 32),k1,fa] (show w.heap.size+1+1+1+1≠w.heap.size+1+1 by omega)) (Aq.setRow_other (D2.out.ext (An.drew W3)) #[.int .i64 (bits .xor .i64 fk 32),k1,fa] (show w.heap.size≠w.heap.size+1+1 by omega)))
   have zl:=A6 (ag _ (Aq.setRow_other (Aq.setRow_other (D7.out.ext (An.drew W3)) #[.int .i64 (bits .xor .i64 fk 32),k1,fa] (show w.heap.size+1+1+1+1≠w.heap.size+1+1 by omega)) #[fk,fa] (show w.heap.size+1+1+1+1≠w.heap.size+1+1+1 by omega)) (Aq.setRow_other (Aq.setRow_other (D2.out.ext (An.drew W3)) #[.int .i64 (bits .xor .i64 fk 32),k1,fa] (show w.heap.size≠w.heap.size+1+1 by omega)) #[fk,fa] (show w.heap.size≠w.heap.size+1+1+1 by omega))))
  |(
   clear C3 y3;have ag:∀wx,Aq wx (w.heap.size+1+1+1+1) 185 #[.int .i64 fk,.int .i64 k1,.int .i64 fa]→Aq wx (w.heap.size) 36 #[.int .i64 fk,.int .i64 fa]→wx.cell? ⟨w.heap.size+1+1+1+1,0,none⟩=some (.int .i64 fk)∧wx.cell? ⟨w.heap.size+1+1+1+1,1,none⟩=some (.int .i64 k1)∧wx.cell? ⟨w.heap.size+1+1+1+1,2,none⟩=some (.int .i64 fa)∧wx.cell? ⟨w,0,none⟩=some (.int .i64 fk)∧wx.cell? ⟨w,1,none⟩=some (.int .i64 fa):=fun wx h7 h2=>⟨(Hp h7).1,(Hp h7).2.1,(Hp h7).2.2,(Fh h2).1,(Fh h2).2⟩
   have tu:=A6 (ag _ (C7.out.ext (An.drew W2)) (C2.out.ext (An.drew W2)));have JI:=A6 (ag _ (Aq.setRow_other (C7.out.ext (An.drew W2)) #[fk,k1,fa] (show w.heap.size+1+1+1+1≠w.heap.size+1+1 by omega)) (Aq.setRow_other (C2.out.ext (An.drew W2)) #[fk,k1,fa] (show w.heap.size≠w.heap.size+1+1 by omega)))
   have zl:=A6 (ag _ (Aq.setRow_other (Aq.setRow_other (C7.out.ext (An.drew W2)) #[fk,k1,fa] (show w.heap.size+1+1+1+1≠w.heap.size+1+1 by omega)) #[fk,fa] (show w.heap.size+1+1+1+1≠w.heap.size+1+1+1 by omega)) (Aq.setRow_other (Aq.setRow_other (C2.out.ext (An.drew W2)) #[fk,k1,fa] (show w.heap.size≠w.heap.size+1+1 by omega)) #[fk,fa] (show w.heap.size≠w.heap.size+1+1+1 by omega))))
 clear ag
 first
  |(
   guard_hyp N1
   refine wp_region_held_drew (S:=fun w'=>w'.cell? ⟨w.heap.size+1+1+1+1,0,none⟩=some (.int .i64 (bits .xor .i64 fk 32))∧w'.cell? ⟨w.heap.size+1+1+1+1,1,none⟩=some (.int .i64 k1)∧w'.cell? ⟨w.heap.size+1+1+1+1,2,none⟩=some (.int .i64 fa)∧w'.cell? ⟨w,0,none⟩=some (.int .i64 fk)∧w'.cell? ⟨w,1,none⟩=some (.int .i64 fa)) (by kernel_rfl) tu.out (fun aa=>?_)
   refine Bv (i:=0) (v:=(.agg #[.int .i64 (bits .xor .i64 fk 32),k1,fa])) rfl aa ?_)
  |(
   refine wp_region_held_drew (S:=fun w'=>w'.cell? ⟨w.heap.size+1+1+1+1,0,none⟩=some (.int .i64 fk)∧w'.cell? ⟨w.heap.size+1+1+1+1,1,none⟩=some (.int .i64 k1)∧w'.cell? ⟨w.heap.size+1+1+1+1,2,none⟩=some (.int .i64 fa)∧w'.cell? ⟨w,0,none⟩=some (.int .i64 fk)∧w'.cell? ⟨w,1,none⟩=some (.int .i64 fa)) (by kernel_rfl) tu.out (fun aa=>?_)
   refine Bv (i:=0) (v:=(.agg #[fk,k1,fa])) rfl aa ?_)
 refine Bv (i:=1) (v:=(.agg #[fk,fa])) rfl aa ?_
 refine wpAnyH_ready (rs:=[2]) (by kernel_rfl) (by simp) ?_
 refine AllReadyH.cons rfl (fun K hK=>?_) AllReadyH.nil
 first
  |(
   guard_hyp N1
   refine Ca rfl 185 (.tmp 4) (.tmp 49) rfl (w.heap.size+1+1) 0 #[.int .i64 (bits .xor .i64 fk 32),k1,fa] rfl rfl 185 #[.int .i64 0,.int .i64 0,.int .i64 0] (D4.out.ext (An.drew _)) Fl (Nat.le_refl _) (by simp[Value.oneCell']) ?_)
  |(
   refine Ca rfl 185 (.tmp 4) (.tmp 49) rfl (w.heap.size+1+1) 0 #[fk,k1,fa] rfl rfl 185 #[.int .i64 0,.int .i64 0,.int .i64 0] (C4.out.ext (An.drew _)) Fl (Nat.le_refl _) (by simp[Value.oneCell']) ?_)
 refine hK.out _ _ JI.out (fun af=>?_)
 clear hK K aa
 try simp only[List.getElem_toArray,List.getElem_cons_zero,List.getElem_cons_succ,Act.put,List.setIfInBounds_toArray,List.set_cons_zero,List.set_cons_succ]
 refine wpAnyH_ready (rs:=[3]) (by kernel_rfl) (by simp) ?_
 refine AllReadyH.cons rfl (fun K hK=>?_) AllReadyH.nil
 first
  |(
   guard_hyp N1
   refine Ca rfl 36 (.tmp 5) (.tmp 50) rfl (w.heap.size+1+1+1) 0 #[fk,fa] rfl rfl 36 #[.int .i64 0,.int .i64 0] (Aq.setRow_other (D5.out.ext (An.drew _)) _ (by omega)) Dz (Nat.le_refl _) (by simp[Value.oneCell']) ?_)
  |(
   refine Ca rfl 36 (.tmp 5) (.tmp 50) rfl (w.heap.size+1+1+1) 0 #[fk,fa] rfl rfl 36 #[.int .i64 0,.int .i64 0] (Aq.setRow_other (C5.out.ext (An.drew _)) _ (by omega)) Dz (Nat.le_refl _) (by simp[Value.oneCell']) ?_)
 refine hK.out _ _ zl.out (fun bb=>?_)
 clear hK K af
 try simp only[List.getElem_toArray,List.getElem_cons_zero,List.getElem_cons_succ,Act.put,List.setIfInBounds_toArray,List.set_cons_zero,List.set_cons_succ]
 refine Bv (i:=4) (v:=(0:Int)) rfl bb ?_
 refine wpAnyH_done (by kernel_rfl) ?_ _
 go_wp2_with fail
 first
  |(
   guard_hyp N1
   refine bodyPost_ret (v:=.tuple #[.agg #[.int .i64 (bits .xor .i64 fk 32),k1,fa],.agg #[fk,fa],(0:Int)]) ?_ rfl ⟨⟨_,_,_,_,_,rfl,.inl ⟨rfl,by unfold J3;rw[if_neg (by decide),if_neg (by decide),if_pos rfl,if_neg hf]⟩⟩,An.setRow (An.setRow (DX.out.trans (An.drew _)) (by omega) _) (by omega) _⟩
   exact Hh rfl _ _ (w.heap.size+1+1) (w.heap.size+1+1+1) 185 36 _ _ _ _ _ _ _ rfl rfl rfl (Aq.setRow_other (Aq.setRow (D4.out.ext (An.drew _)) _) _ (by omega)) (Aq.setRow (Aq.setRow_other (D5.out.ext (An.drew _)) _ (by omega)) _) Tryz.underlying185 rfl Fl Tryz.underlying36 rfl Dz)
  |(
   refine bodyPost_ret (v:=.tuple #[.agg #[fk,k1,fa],.agg #[fk,fa],(0:Int)]) ?_ rfl ⟨⟨_,_,_,_,_,rfl,.inl ⟨rfl,by unfold J3;rw[if_neg (by decide),if_pos rfl,if_neg hf]⟩⟩,An.setRow (An.setRow (CX.out.trans (An.drew _)) (by omega) _) (by omega) _⟩
   exact Hh rfl _ _ (w.heap.size+1+1) (w.heap.size+1+1+1) 185 36 _ _ _ _ _ _ _ rfl rfl rfl (Aq.setRow_other (Aq.setRow (C4.out.ext (An.drew _)) _) _ (by omega)) (Aq.setRow (Aq.setRow_other (C5.out.ext (An.drew _)) _ (by omega)) _) Tryz.underlying185 rfl Fl Tryz.underlying36 rfl Dz)):p:=h
theorem K2 (h:p:=by
 first
  |(
   guard_hyp N1
   go_simp
   replace hb:=hb.ext (An.alloc W0 (.cells #[(0:Int),(0:Int),(0:Int)] 185));have h3:=Aq.new W0 185 #[.int .i64 0,.int .i64 0,.int .i64 0];have sb:w.heap.size≤W0.heap.size:=hx.hsize;replace hx:=hx.to_alloc (.cells #[(0:Int),(0:Int),(0:Int)] 185);generalize W0.heap.size=p3 at*;generalize W0.alloc (.cells #[(0:Int),(0:Int),(0:Int)] 185)=W1 at *)
  |(
   guard_hyp N2
   go_simp
   replace hb:=hb.ext (An.alloc W0 (.cells #[(0:Int),(0:Int)] 36));have h4:=Aq.new W0 36 #[.int .i64 0,.int .i64 0];have xc:w.heap.size≤W0.heap.size:=hx.hsize;replace hx:=hx.to_alloc (.cells #[(0:Int),(0:Int)] 36);generalize W0.heap.size=p4 at*;generalize W0.alloc (.cells #[(0:Int),(0:Int)] 36)=W1 at *)
  |(
   refine C8 rfl 107 #[.agg #[fk,fa],.agg #[k1,k2,k3,k4,k5]] rfl (by kernel_rfl) (fun v w'=>∃mk ma zk za er:Int,v=.tuple #[.agg #[mk,k1,ma],.agg #[zk,za],er]∧Sk fk fa k4 k5 mk ma zk za er∧An W0 w') ((Nx W0).mono fun e w' ⟨⟨mk,ma,zk,za,er,h1,h2⟩,h3⟩=>⟨_,h1,mk,ma,zk,za,er,rfl,h2,h3⟩) ?_
   rintro v W1 ⟨mk,ma,zk,za,er,rfl,hF,d8⟩;replace hx:=hx.trans d8;replace hb:=hb.ext d8;clear d8)
 refine hK.out _ _ hb (fun jk=>?_)
 clear hK K aa
 try simp only[List.getElem_toArray,List.getElem_cons_zero,List.getElem_cons_succ,Act.put,List.setIfInBounds_toArray,List.set_cons_zero,List.set_cons_succ]
 first
  |(
   guard_hyp N1
   refine wpAnyH_ready (rs:=[9,15]) (by kernel_rfl) (by simp) ?_)
  |(
   guard_hyp N2
   refine wpAnyH_ready (rs:=[9,14]) (by kernel_rfl) (by simp) ?_)
  |(
   refine Bf (i:=10) (v:=(.tuple #[.agg #[mk,k1,ma],.agg #[zk,za],er])) rfl jk ?_
   refine Bf (i:=11) (v:=(.agg #[mk,k1,ma])) rfl jk ?_
   refine Bf (i:=12) (v:=(.agg #[zk,za])) rfl jk ?_
   refine Bf (i:=13) (v:=er) rfl jk ?_
   refine wpAnyH_ready (rs:=[14,15]) (by kernel_rfl) (by simp) ?_)
 refine AllReadyH.cons rfl (fun K hK=>?_) (AllReadyH.cons rfl (fun K hK=>?_) (AllReadyH.nil))
 ·first
   |(
    guard_hyp N1
    refine C8 rfl 107 #[.agg #[fk,fa],.agg #[k1,k2,k3,k4,k5]] rfl (by kernel_rfl) (fun v w'=>∃mk ma zk za er:Int,v=.tuple #[.agg #[mk,k1,ma],.agg #[zk,za],er]∧Sk fk fa k4 k5 mk ma zk za er∧An W1 w') ((Nx W1).mono fun e w' ⟨⟨mk,ma,zk,za,er,h1,h2⟩,h3⟩=>⟨_,h1,mk,ma,zk,za,er,rfl,h2,h3⟩) ?_
    rintro v W2 ⟨mk,ma,zk,za,er,rfl,hF,d8⟩;replace hx:=hx.trans d8;replace hb:=hb.ext d8;replace h3:=h3.ext d8;clear d8)
   |(
    guard_hyp N2
    refine C8 rfl 107 #[.agg #[fk,fa],.agg #[k1,k2,k3,k4,k5]] rfl (by kernel_rfl) (fun v w'=>∃mk ma zk za er:Int,v=.tuple #[.agg #[mk,k1,ma],.agg #[zk,za],er]∧Sk fk fa k4 k5 mk ma zk za er∧An W1 w') ((Nx W1).mono fun e w' ⟨⟨mk,ma,zk,za,er,h1,h2⟩,h3⟩=>⟨_,h1,mk,ma,zk,za,er,rfl,h2,h3⟩) ?_
    rintro v W2 ⟨mk,ma,zk,za,er,rfl,hF,d8⟩;replace hx:=hx.trans d8;replace hb:=hb.ext d8;replace h4:=h4.ext d8;clear d8)
   |(
    go_simp
    replace hb:=hb.ext (An.alloc W1 (.cells #[(0:Int),(0:Int),(0:Int)] 185));have h3:=Aq.new W1 185 #[.int .i64 0,.int .i64 0,.int .i64 0];have sb:w.heap.size≤W1.heap.size:=hx.hsize;replace hx:=hx.to_alloc (.cells #[(0:Int),(0:Int),(0:Int)] 185);generalize W1.heap.size=p3 at*;generalize W1.alloc (.cells #[(0:Int),(0:Int),(0:Int)] 185)=W2 at *)
  refine hK.out _ _ hb (fun af=>?_)
  clear hK K jk
  try simp only[List.getElem_toArray,List.getElem_cons_zero,List.getElem_cons_succ,Act.put,List.setIfInBounds_toArray,List.set_cons_zero,List.set_cons_succ]
  first
   |(
    guard_hyp N1
    refine Bf (i:=10) (v:=(.tuple #[.agg #[mk,k1,ma],.agg #[zk,za],er])) rfl af ?_
    refine Bf (i:=11) (v:=(.agg #[mk,k1,ma])) rfl af ?_
    refine Bf (i:=12) (v:=(.agg #[zk,za])) rfl af ?_
    refine Bf (i:=13) (v:=er) rfl af ?_
    refine wpAnyH_ready (rs:=[15]) (by kernel_rfl) (by simp) ?_)
   |(
    guard_hyp N2
    refine Bf (i:=10) (v:=(.tuple #[.agg #[mk,k1,ma],.agg #[zk,za],er])) rfl af ?_
    refine Bf (i:=11) (v:=(.agg #[mk,k1,ma])) rfl af ?_
    refine Bf (i:=12) (v:=(.agg #[zk,za])) rfl af ?_
    refine Bf (i:=13) (v:=er) rfl af ?_
    refine wpAnyH_ready (rs:=[14]) (by kernel_rfl) (by simp) ?_)
   |(
    refine wpAnyH_ready (rs:=[15]) (by kernel_rfl) (by simp) ?_)
  refine AllReadyH.cons rfl (fun K hK=>?_) (AllReadyH.nil)
  ·go_simp
   first
    |(
     guard_hyp N2
     replace hb:=hb.ext (An.alloc W2 (.cells #[(0:Int),(0:Int),(0:Int)] 185));have ai:W2.heap.size≠p4:=by have:=h4.lt;omega
     replace h4:=h4.ext (An.alloc W2 (.cells #[(0:Int),(0:Int),(0:Int)] 185));have h3:=Aq.new W2 185 #[.int .i64 0,.int .i64 0,.int .i64 0];have sb:w.heap.size≤W2.heap.size:=hx.hsize;replace hx:=hx.to_alloc (.cells #[(0:Int),(0:Int),(0:Int)] 185);generalize W2.heap.size=p3 at*;generalize W2.alloc (.cells #[(0:Int),(0:Int),(0:Int)] 185)=W3 at *)
    |(
     replace hb:=hb.ext (An.alloc W2 (.cells #[(0:Int),(0:Int)] 36));have ai:p3≠W2.heap.size:=by have:=h3.lt;omega
     replace h3:=h3.ext (An.alloc W2 (.cells #[(0:Int),(0:Int)] 36));have h4:=Aq.new W2 36 #[.int .i64 0,.int .i64 0];have xc:w.heap.size≤W2.heap.size:=hx.hsize;replace hx:=hx.to_alloc (.cells #[(0:Int),(0:Int)] 36);generalize W2.heap.size=p4 at*;generalize W2.alloc (.cells #[(0:Int),(0:Int)] 36)=W3 at *)
   refine hK.out _ _ hb (fun bb=>?_)
   clear hK K af
   try simp only[List.getElem_toArray,List.getElem_cons_zero,List.getElem_cons_succ,Act.put,List.setIfInBounds_toArray,List.set_cons_zero,List.set_cons_succ]
   refine wpAnyH_ready (rs:=[16]) (by kernel_rfl) (by simp) ?_
   refine AllReadyH.cons rfl (fun K hK=>?_) (AllReadyH.nil)
   ·refine Ca rfl 185 (.tmp 3) (.tmp 23) rfl p3 0 #[mk,k1,ma] rfl rfl 185 #[.int .i64 0,.int .i64 0,.int .i64 0] h3 Fl (Nat.le_refl _) (by simp[Value.oneCell']) ?_
    have mz:An w (W3.setRow p3 #[mk,k1,ma]):=An.setRow hx sb _;have fy:Aq (W3.setRow p3 #[mk,k1,ma]) g 118 cs:=Aq.setRow_other hb _ (by have:=HB.out.lt;omega)
    have qr:Aq (W3.setRow p3 #[mk,k1,ma]) p3 185 #[.int .i64 mk,.int .i64 k1,.int .i64 ma]:=Aq.setRow h3 _;have my:Aq (W3.setRow p3 #[mk,k1,ma]) p4 36 #[.int .i64 0,.int .i64 0]:=Aq.setRow_other h4 _ (by omega)
    change K _ (W3.setRow p3 #[mk,k1,ma]);clear hx hb h3 h4;generalize W3.setRow p3 #[mk,k1,ma]=W4 at*;have hx:=mz;have hb:=fy;have h3:=qr;have h4:=my;clear mz fy qr my;refine hK.out _ _ hb (fun gx=>?_)
    clear hK K bb
    try simp only[List.getElem_toArray,List.getElem_cons_zero,List.getElem_cons_succ,Act.put,List.setIfInBounds_toArray,List.set_cons_zero,List.set_cons_succ]
    refine wpAnyH_ready (rs:=[17]) (by kernel_rfl) (by simp) ?_
    refine AllReadyH.cons rfl (fun K hK=>?_) (AllReadyH.nil)
    ·refine Ca rfl 36 (.tmp 4) (.tmp 24) rfl p4 0 #[zk,za] rfl rfl 36 #[.int .i64 0,.int .i64 0] h4 Dz (Nat.le_refl _) (by simp[Value.oneCell']) ?_
     have mz:An w (W4.setRow p4 #[zk,za]):=An.setRow hx xc _;have fy:Aq (W4.setRow p4 #[zk,za]) g 118 cs:=Aq.setRow_other hb _ (by have:=HB.out.lt;omega)
     have my:Aq (W4.setRow p4 #[zk,za]) p4 36 #[.int .i64 zk,.int .i64 za]:=Aq.setRow h4 _;have qr:Aq (W4.setRow p4 #[zk,za]) p3 185 #[.int .i64 mk,.int .i64 k1,.int .i64 ma]:=Aq.setRow_other h3 _ (by omega)
     change K _ (W4.setRow p4 #[zk,za]);clear hx hb h4 h3;generalize W4.setRow p4 #[zk,za]=W5 at*;have hx:=mz;have hb:=fy;have h4:=my;have h3:=qr;clear mz fy my qr;refine hK.out _ _ hb (fun qt=>?_)
     clear hK K gx
     try simp only[List.getElem_toArray,List.getElem_cons_zero,List.getElem_cons_succ,Act.put,List.setIfInBounds_toArray,List.set_cons_zero,List.set_cons_succ]
     refine Bf (i:=18) (v:=er) rfl qt ?_
     refine wpAnyH_done (by kernel_rfl) ?_ _
     try go_wp2_with fail
     go_meet
     exact⟨p3,p4,mk,ma,zk,za,er,rfl,rfl,rfl,sb,xc,ai,A6 h3,A6 h4,A6 hF,A6 hx⟩
 ·go_simp
  first
   |(
    guard_hyp N1
    replace hb:=hb.ext (An.alloc W1 (.cells #[(0:Int),(0:Int)] 36));have ai:p3≠W1.heap.size:=by have:=h3.lt;omega
    replace h3:=h3.ext (An.alloc W1 (.cells #[(0:Int),(0:Int)] 36));have h4:=Aq.new W1 36 #[.int .i64 0,.int .i64 0];have xc:w.heap.size≤W1.heap.size:=hx.hsize;replace hx:=hx.to_alloc (.cells #[(0:Int),(0:Int)] 36);generalize W1.heap.size=p4 at*;generalize W1.alloc (.cells #[(0:Int),(0:Int)] 36)=W2 at *)
   |(
    guard_hyp N2
    replace hb:=hb.ext (An.alloc W1 (.cells #[(0:Int),(0:Int),(0:Int)] 185));have ai:W1.heap.size≠p4:=by have:=h4.lt;omega
    replace h4:=h4.ext (An.alloc W1 (.cells #[(0:Int),(0:Int),(0:Int)] 185));have h3:=Aq.new W1 185 #[.int .i64 0,.int .i64 0,.int .i64 0];have sb:w.heap.size≤W1.heap.size:=hx.hsize;replace hx:=hx.to_alloc (.cells #[(0:Int),(0:Int),(0:Int)] 185);generalize W1.heap.size=p3 at*;generalize W1.alloc (.cells #[(0:Int),(0:Int),(0:Int)] 185)=W2 at *)
   |(
    replace hb:=hb.ext (An.alloc W1 (.cells #[(0:Int),(0:Int)] 36));have h4:=Aq.new W1 36 #[.int .i64 0,.int .i64 0];have xc:w.heap.size≤W1.heap.size:=hx.hsize;replace hx:=hx.to_alloc (.cells #[(0:Int),(0:Int)] 36);generalize W1.heap.size=p4 at*;generalize W1.alloc (.cells #[(0:Int),(0:Int)] 36)=W2 at *)
  refine hK.out _ _ hb (fun af=>?_)
  clear hK K jk
  try simp only[List.getElem_toArray,List.getElem_cons_zero,List.getElem_cons_succ,Act.put,List.setIfInBounds_toArray,List.set_cons_zero,List.set_cons_succ]
  first
   |(
    guard_hyp N0
    refine wpAnyH_ready (rs:=[14]) (by kernel_rfl) (by simp) ?_)
   |(
    refine wpAnyH_ready (rs:=[9]) (by kernel_rfl) (by simp) ?_)
  refine AllReadyH.cons rfl (fun K hK=>?_) (AllReadyH.nil)
  ·first
    |(
     guard_hyp N0
     go_simp
     replace hb:=hb.ext (An.alloc W2 (.cells #[(0:Int),(0:Int),(0:Int)] 185));have ai:W2.heap.size≠p4:=by have:=h4.lt;omega
     replace h4:=h4.ext (An.alloc W2 (.cells #[(0:Int),(0:Int),(0:Int)] 185));have h3:=Aq.new W2 185 #[.int .i64 0,.int .i64 0,.int .i64 0];have sb:w.heap.size≤W2.heap.size:=hx.hsize;replace hx:=hx.to_alloc (.cells #[(0:Int),(0:Int),(0:Int)] 185);generalize W2.heap.size=p3 at*;generalize W2.alloc (.cells #[(0:Int),(0:Int),(0:Int)] 185)=W3 at *)
    |(
     refine C8 rfl 107 #[.agg #[fk,fa],.agg #[k1,k2,k3,k4,k5]] rfl (by kernel_rfl) (fun v w'=>∃mk ma zk za er:Int,v=.tuple #[.agg #[mk,k1,ma],.agg #[zk,za],er]∧Sk fk fa k4 k5 mk ma zk za er∧An W2 w') ((Nx W2).mono fun e w' ⟨⟨mk,ma,zk,za,er,h1,h2⟩,h3⟩=>⟨_,h1,mk,ma,zk,za,er,rfl,h2,h3⟩) ?_
     rintro v W3 ⟨mk,ma,zk,za,er,rfl,hF,d8⟩;replace hx:=hx.trans d8;replace hb:=hb.ext d8;replace h3:=h3.ext d8;replace h4:=h4.ext d8;clear d8)
   refine hK.out _ _ hb (fun bb=>?_)
   clear hK K af
   try simp only[List.getElem_toArray,List.getElem_cons_zero,List.getElem_cons_succ,Act.put,List.setIfInBounds_toArray,List.set_cons_zero,List.set_cons_succ]
   first
    |guard_hyp N0
    |(
     refine Bf (i:=10) (v:=(.tuple #[.agg #[mk,k1,ma],.agg #[zk,za],er])) rfl bb ?_
     refine Bf (i:=11) (v:=(.agg #[mk,k1,ma])) rfl bb ?_
     refine Bf (i:=12) (v:=(.agg #[zk,za])) rfl bb ?_
     refine Bf (i:=13) (v:=er) rfl bb ?_)
   refine wpAnyH_ready (rs:=[16]) (by kernel_rfl) (by simp) ?_
   refine AllReadyH.cons rfl (fun K hK=>?_) (AllReadyH.nil)
   ·refine Ca rfl 185 (.tmp 3) (.tmp 23) rfl p3 0 #[mk,k1,ma] rfl rfl 185 #[.int .i64 0,.int .i64 0,.int .i64 0] h3 Fl (Nat.le_refl _) (by simp[Value.oneCell']) ?_
    have mz:An w (W3.setRow p3 #[mk,k1,ma]):=An.setRow hx sb _;have fy:Aq (W3.setRow p3 #[mk,k1,ma]) g 118 cs:=Aq.setRow_other hb _ (by have:=HB.out.lt;omega)
    have qr:Aq (W3.setRow p3 #[mk,k1,ma]) p3 185 #[.int .i64 mk,.int .i64 k1,.int .i64 ma]:=Aq.setRow h3 _;have my:Aq (W3.setRow p3 #[mk,k1,ma]) p4 36 #[.int .i64 0,.int .i64 0]:=Aq.setRow_other h4 _ (by omega)
    change K _ (W3.setRow p3 #[mk,k1,ma]);clear hx hb h3 h4;generalize W3.setRow p3 #[mk,k1,ma]=W4 at*;have hx:=mz;have hb:=fy;have h3:=qr;have h4:=my;clear mz fy qr my;refine hK.out _ _ hb (fun gx=>?_)
    clear hK K bb
    try simp only[List.getElem_toArray,List.getElem_cons_zero,List.getElem_cons_succ,Act.put,List.setIfInBounds_toArray,List.set_cons_zero,List.set_cons_succ]
    refine wpAnyH_ready (rs:=[17]) (by kernel_rfl) (by simp) ?_
    refine AllReadyH.cons rfl (fun K hK=>?_) (AllReadyH.nil)
    ·refine Ca rfl 36 (.tmp 4) (.tmp 24) rfl p4 0 #[zk,za] rfl rfl 36 #[.int .i64 0,.int .i64 0] h4 Dz (Nat.le_refl _) (by simp[Value.oneCell']) ?_
     have mz:An w (W4.setRow p4 #[zk,za]):=An.setRow hx xc _;have fy:Aq (W4.setRow p4 #[zk,za]) g 118 cs:=Aq.setRow_other hb _ (by have:=HB.out.lt;omega)
     have my:Aq (W4.setRow p4 #[zk,za]) p4 36 #[.int .i64 zk,.int .i64 za]:=Aq.setRow h4 _;have qr:Aq (W4.setRow p4 #[zk,za]) p3 185 #[.int .i64 mk,.int .i64 k1,.int .i64 ma]:=Aq.setRow_other h3 _ (by omega)
     change K _ (W4.setRow p4 #[zk,za]);clear hx hb h4 h3;generalize W4.setRow p4 #[zk,za]=W5 at*;have hx:=mz;have hb:=fy;have h4:=my;have h3:=qr;clear mz fy my qr;refine hK.out _ _ hb (fun qt=>?_)
     clear hK K gx
     try simp only[List.getElem_toArray,List.getElem_cons_zero,List.getElem_cons_succ,Act.put,List.setIfInBounds_toArray,List.set_cons_zero,List.set_cons_succ]
     refine Bf (i:=18) (v:=er) rfl qt ?_
     refine wpAnyH_done (by kernel_rfl) ?_ _
     try go_wp2_with fail
     go_meet
     exact⟨p3,p4,mk,ma,zk,za,er,rfl,rfl,rfl,sb,xc,ai,A6 h3,A6 h4,A6 hF,A6 hx⟩):p:=h
theorem K3 (h:p:=by
 first
  |(
   guard_hyp N1
   have hk:k4=70:=by simpa using ‹(k4==70)=true›)
  |(
   guard_hyp N2
   have hk:k4=116:=by simpa using ‹(k4==116)=true›)
  |(
   guard_hyp N3
   have hk:k4=84:=by simpa using ‹(k4==84)=true›)
  |(
   have hk:k4=102:=by simpa using ‹(k4==102)=true›)
 have ag:∀wx,Aq wx (w.heap.size+1+1+1+1) 185 #[.int .i64 k4,.int .i64 k1,.int .i64 k5]→Aq wx (w.heap.size+1) 62 #[.int .i64 k1,.int .i64 k2,.int .i64 k3,.int .i64 k4,.int .i64 k5]→wx.cell? ⟨w.heap.size+1+1+1+1,0,none⟩=some (.int .i64 k4)∧wx.cell? ⟨w.heap.size+1+1+1+1,1,none⟩=some (.int .i64 k1)∧wx.cell? ⟨w.heap.size+1+1+1+1,2,none⟩=some (.int .i64 k5)∧wx.cell? ⟨w.heap.size+1,3,none⟩=some (.int .i64 k4)∧wx.cell? ⟨w.heap.size+1,4,none⟩=some (.int .i64 k5):=fun wx h7 h2=>⟨(Hp h7).1,(Hp h7).2.1,(Hp h7).2.2,h2.cell 3,h2.cell 4⟩
 have tu:=A6 (ag _ (B7.out.ext (An.drew W0)) (B3.out.ext (An.drew W0)));have JI:=A6 (ag _ (Aq.setRow_other (B7.out.ext (An.drew W0)) #[k4,k1,k5] (show w.heap.size+1+1+1+1≠w.heap.size+1+1 by omega)) (Aq.setRow_other (B3.out.ext (An.drew W0)) #[k4,k1,k5] (show w.heap.size+1≠w.heap.size+1+1 by omega)))
 have zl:=A6 (ag _ (Aq.setRow_other (Aq.setRow_other (B7.out.ext (An.drew W0)) #[k4,k1,k5] (show w.heap.size+1+1+1+1≠w.heap.size+1+1 by omega)) #[k4,k5] (show w.heap.size+1+1+1+1≠w.heap.size+1+1+1 by omega)) (Aq.setRow_other (Aq.setRow_other (B3.out.ext (An.drew W0)) #[k4,k1,k5] (show w.heap.size+1≠w.heap.size+1+1 by omega)) #[k4,k5] (show w.heap.size+1≠w.heap.size+1+1+1 by omega)))
 clear ag;refine wp_region_held_drew (S:=fun w'=>w'.cell? ⟨w.heap.size+1+1+1+1,0,none⟩=some (.int .i64 k4)∧w'.cell? ⟨w.heap.size+1+1+1+1,1,none⟩=some (.int .i64 k1)∧w'.cell? ⟨w.heap.size+1+1+1+1,2,none⟩=some (.int .i64 k5)∧w'.cell? ⟨w.heap.size+1,3,none⟩=some (.int .i64 k4)∧w'.cell? ⟨w.heap.size+1,4,none⟩=some (.int .i64 k5)) (by kernel_rfl) tu.out (fun aa=>?_)
 refine Bv (i:=0) (v:=(.agg #[k4,k1,k5])) rfl aa ?_
 refine Bv (i:=1) (v:=(.pointer (some ⟨w.heap.size+1,3,none⟩))) rfl aa ?_
 refine Bv (i:=2) (v:=k4) rfl aa ?_
 refine Bv (i:=3) (v:=(.pointer (some ⟨w.heap.size+1,4,none⟩))) rfl aa ?_
 refine Bv (i:=4) (v:=k5) rfl aa ?_
 refine Bv (i:=5) (v:=(.agg #[k4,k5])) rfl aa ?_
 refine wpAnyH_ready (rs:=[6]) (by kernel_rfl) (by simp) ?_
 refine AllReadyH.cons rfl (fun K hK=>?_) AllReadyH.nil
 refine Ca rfl 185 (.tmp 4) (.tmp 22) rfl (w.heap.size+1+1) 0 #[k4,k1,k5] rfl rfl 185 #[.int .i64 0,.int .i64 0,.int .i64 0] (B4.out.ext (An.drew _)) Fl (Nat.le_refl _) (by simp[Value.oneCell']) ?_
 refine hK.out _ _ JI.out (fun af=>?_)
 clear hK K aa
 try simp only[List.getElem_toArray,List.getElem_cons_zero,List.getElem_cons_succ,Act.put,List.setIfInBounds_toArray,List.set_cons_zero,List.set_cons_succ]
 refine wpAnyH_ready (rs:=[7]) (by kernel_rfl) (by simp) ?_
 refine AllReadyH.cons rfl (fun K hK=>?_) AllReadyH.nil
 refine Ca rfl 36 (.tmp 5) (.tmp 27) rfl (w.heap.size+1+1+1) 0 #[k4,k5] rfl rfl 36 #[.int .i64 0,.int .i64 0] (Aq.setRow_other (B5.out.ext (An.drew _)) _ (by omega)) Dz (Nat.le_refl _) (by simp[Value.oneCell']) ?_
 refine hK.out _ _ zl.out (fun bb=>?_)
 clear hK K af
 try simp only[List.getElem_toArray,List.getElem_cons_zero,List.getElem_cons_succ,Act.put,List.setIfInBounds_toArray,List.set_cons_zero,List.set_cons_succ]
 refine Bv (i:=8) (v:=(0:Int)) rfl bb ?_
 refine wpAnyH_done (by kernel_rfl) ?_ _
 go_wp2_with fail
 refine bodyPost_ret (v:=.tuple #[.agg #[k4,k1,k5],.agg #[k4,k5],(0:Int)]) ?_ rfl ⟨⟨_,_,_,_,_,rfl,.inl ⟨rfl,by subst hk;rfl⟩⟩,An.setRow (An.setRow (HX.out.trans (An.drew _)) (by omega) _) (by omega) _⟩
 exact Hh rfl _ _ (w.heap.size+1+1) (w.heap.size+1+1+1) 185 36 _ _ _ _ _ _ _ rfl rfl rfl (Aq.setRow_other (Aq.setRow (B4.out.ext (An.drew _)) _) _ (by omega)) (Aq.setRow (Aq.setRow_other (B5.out.ext (An.drew _)) _ (by omega)) _) Tryz.underlying185 rfl Fl Tryz.underlying36 rfl Dz):p:=h
theorem K4 (h:p:=by
 first
  |(
   guard_hyp N1
   have B6:Aq W5 W4.heap.size 62 (Pe (Cf c n)):=by unfold Cf;rw[if_neg jx];exact B5
   have ep:n≤0:=by omega
   clear jx B5;have X6:=FP;have B46:=JJ;clear FP JJ)
  |(
   have g0:W5.cell? ⟨W4,0,none⟩=some (.int .i64 c.count):=B5.cell 0;have f0:=B5.frozen 0;have B6:Aq (W5.setCell ⟨W4,0,none⟩ n) W4.heap.size 62 (Pe (Cf c n)):=by
    have hh:=B5.set_ 0 (.int .i64 n);unfold Cf;rw[if_pos jx];exact hh
   have X6:=FP.setCell (p:=⟨W4,0,none⟩) vn (.int .i64 n);have B46:=Bn (g':=W4.heap.size) JJ (fun e=>by have:=JJ.lt;have:=G7 B5 JJ (by decide);omega) 0 (.int .i64 n)
   clear FP JJ B5)
 go_upto_region 6 with fail
 first
  |(
   guard_hyp N1
   have e0:W5.cell? ⟨W4,0,none⟩=some (.int .i64 (Cf c n).count):=B6.cell 0;have e1:W5.cell? ⟨W4,1,none⟩=some (.int .i64 (Cf c n).reg):=B6.cell 1;have e2:W5.cell? ⟨W4,2,none⟩=some (.int .i64 (Cf c n).op):=B6.cell 2;have e3:W5.cell? ⟨W4,3,none⟩=some (.int .i64 (Cf c n).verb):=B6.cell 3;have e4:W5.cell? ⟨W4,4,none⟩=some (.int .i64 (Cf c n).arg):=B6.cell 4)
  |(
   generalize World.setCell W5 _ _=W6 at*;clear g0 f0 jx;have e0:W6.cell? ⟨W4,0,none⟩=some (.int .i64 (Cf c n).count):=B6.cell 0;have e1:W6.cell? ⟨W4,1,none⟩=some (.int .i64 (Cf c n).reg):=B6.cell 1;have e2:W6.cell? ⟨W4,2,none⟩=some (.int .i64 (Cf c n).op):=B6.cell 2;have e3:W6.cell? ⟨W4,3,none⟩=some (.int .i64 (Cf c n).verb):=B6.cell 3;have e4:W6.cell? ⟨W4,4,none⟩=some (.int .i64 (Cf c n).arg):=B6.cell 4)
 have LV:=A6 (fR (c:=Cf c n) (H.out.ext X6) HWL.out HL.out vo.out (by have:=HQ.out;omega) (fun d hd=>HZ.out _ d hd))
 first
  |(
   guard_hyp N1
   have UY:Hid (Km w col W5 col):=A6 ⟨X6.alt _,fun _ _ h=>h,fun _ _ h=>h⟩)
  |(
   have UY:Hid (Km w col W6 col):=A6 ⟨X6.alt _,fun _ _ h=>h,fun _ _ h=>h⟩)
 have UZ:=A6 B46;clear B6 X6 B46;unfold Pe at LV;go_wp2_with fail
 refine LV.out.mono ?_
 clear e0 e1 e2 e3 e4;rintro e W7 (⟨AP,rfl,FQ⟩|⟨d,AP,rfl,FQ⟩)
 ·have HR:Hid (C6 p w col (Dv s n) W7):=A6 (by unfold Dv;rw[HS.out];simp only[AP];exact C6.trans UY.out FQ)
  clear AP FQ LV;exact I121
 ·obtain⟨col7,v7,vp,AQ⟩:=FQ
  have VA:=A6 (UY.out.trans AQ);have B47:=AQ.1.blk UZ.out (fun hn=>hn.1 (H.out.ses.lt (Nat.le_refl _)))
  have d2:W7.cell? ⟨p,2,none⟩=some (.int .i64 (Hq s (Cf c n) d).mode):=vp.ses.blk.cell 2;have HAF:Hid (Dv s n=if(Hq s (Cf c n) d).mode=0 then Hq s (Cf c n) d else Cn (keysF (Hq s (Cf c n) d) ks) 27):=A6 (by unfold Dv;rw[HS.out];simp only[AP])
  by_cases ud:(Hq s (Cf c n) d).mode=0
  ·rw[ud]at d2
   have HR:Hid (C6 p w col (Dv s n) W7):=A6 (by rw[HAF.out,if_pos ud];exact⟨_,_,vp,VA.out⟩)
   clear AP LV vp AQ B47 ud;exact I121
  ·have LS:((Hq s (Cf c n) d).mode==0)=false:=by simpa using ud
   have HTK:=A6 (HD.out c ks d HS.out AP ud);have HI7:=A6 (HDI.out.trn VA.out);have HM7:=A6 vp;have VB:Hid (Dv s n=Cn (keysF (Hq s (Cf c n) d) ks) 27):=A6 (by rw[HAF.out,if_neg ud])
   have e5:W7.cell? ⟨w,5,none⟩=some (.slice A m k):=B47.cell 5;have ab:ks.length=m:=HI7.out.here.len;have xd:m≤2000000:=by have:=LW.out.2;omega
   have ov:=A6 ab;clear AP LV vp AQ B47 ud ab;generalize Hq s (Cf c n) d=s7 at*;go_wp2_with fail
   go_loopw [41] (fun s41 wx=>∃i:Nat,i≤m∧s41=.int .i64 i∧Hid (C6 p W7 col7 (keysF s7 (ks.take i)) wx)) (fun s41 _=>m-(intOf s41).toNat)
   case atStart=>exact⟨0,by omega,rfl,A6 ⟨col7,v7,HM7.out,Km.refl _ _⟩⟩
   case round=>
    obtain⟨i,hi,rfl,FR⟩:=hrel;by_cases ae:i<m
    ·obtain⟨c8,v8,nu,oo⟩:=FR.out
     have lm:=(HI7.out.trn oo).here;obtain⟨ad,e,hc⟩:=lm.at_ (k:=i) ae;subst e;have FM:=hc i ae;have mq:=HTK.out.keysF (ks:=ks.take i) (fun x hx=>LW.out.1 x (List.mem_of_mem_take hx))
     have FS:(ks.take i).length=i:=by rw[List.length_take];have:=ov.out;omega
     rw[FS]at mq;have AR:=A6 (fun key=>Vy (key:=key) nu mq.line mq.mode mq.keys (by omega) (by have:=mq.told;omega))
     have LX:=A6 oo;have zm:ks.take (i+1)=ks.take i++[gI ks i]:=by
      rw[List.take_add_one];have VC:i<ks.length:=by have:=ov.out;omega
      unfold gI;rw[List.getElem?_eq_getElem VC]
      rfl
     have HKE:=A6 zm;clear hc lm nu oo mq FS zm;go_wp2_with fail
     refine(AR.out _).mono ?_
     rintro e W9 ⟨rfl,h9⟩;have H9:Hid (C6 p W7 col7 (keysF s7 (ks.take (i+1))) W9):=A6 (by rw[HKE.out,oP];exact C6.trans LX.out h9)
     clear h9 FM;go_wp2_with fail
     go_roundw
     case rel=>exact⟨i+1,by omega,by go_num,H9⟩
     case measure=>simp[intOf];omega
    ·obtain rfl:i=m:=by omega
     have LY:ks.take i=ks:=List.take_of_length_le (by have:=ov.out;omega)
     obtain⟨c8,v8,nu,oo⟩:=FR.out;rw[LY]at nu;have mq:=HTK.out.keysF (ks:=ks) LW.out.1;have AR:=A6 (Vy (key:=27) nu mq.line mq.mode mq.keys (by have:=LW.out.2;omega) (by have:=mq.told;have:=LW.out.2;omega))
     have LX:=A6 (VA.out.trans oo);clear nu oo mq LY;go_wp2_with fail
     refine AR.out.mono ?_
     rintro e W9 ⟨rfl,h9⟩;have H9:Hid (C6 p w col (Dv s n) W9):=A6 (by rw[VB.out];exact C6.trans LX.out h9)
     clear h9;go_wp2_with fail
     go_end0
     exact⟨rfl,H9.out⟩):p:=h
theorem K5 (h:p:=by
 first
  |(
   guard_hyp N1
   have hk:k4=44:=by simpa using ‹(k4==44)=true›
   have hf:fk=0:=by simpa using ‹(fk==0)=true›)
  |(
   guard_hyp N2
   have h1:¬(k4=102∨k4=70∨k4=116∨k4=84):=by simp_all
   have h2:¬k4=59:=by simp_all
   have h3:¬k4=44:=by simp_all)
  |(
   have hk:k4=59:=by simpa using ‹(k4==59)=true›
   have hf:fk=0:=by simpa using ‹(fk==0)=true›)
 have ag:∀wx,Aq wx (w.heap.size+1+1+1+1) 185 #[.int .i64 k4,.int .i64 k1,.int .i64 k5]→Aq wx (w.heap.size) 36 #[.int .i64 fk,.int .i64 fa]→wx.cell? ⟨w.heap.size+1+1+1+1,0,none⟩=some (.int .i64 k4)∧wx.cell? ⟨w.heap.size+1+1+1+1,1,none⟩=some (.int .i64 k1)∧wx.cell? ⟨w.heap.size+1+1+1+1,2,none⟩=some (.int .i64 k5)∧wx.cell? ⟨w,0,none⟩=some (.int .i64 fk)∧wx.cell? ⟨w,1,none⟩=some (.int .i64 fa):=fun wx h7 h2=>⟨(Hp h7).1,(Hp h7).2.1,(Hp h7).2.2,(Fh h2).1,(Fh h2).2⟩
 have tu:=A6 (ag _ (B7.out.ext (An.drew W0)) (B2.out.ext (An.drew W0)));have JI:=A6 (ag _ (Aq.setRow_other (B7.out.ext (An.drew W0)) #[k4,k1,k5] (show w.heap.size+1+1+1+1≠w.heap.size+1+1 by omega)) (Aq.setRow_other (B2.out.ext (An.drew W0)) #[k4,k1,k5] (show w.heap.size≠w.heap.size+1+1 by omega)))
 have zl:=A6 (ag _ (Aq.setRow_other (Aq.setRow_other (B7.out.ext (An.drew W0)) #[k4,k1,k5] (show w.heap.size+1+1+1+1≠w.heap.size+1+1 by omega)) #[fk,fa] (show w.heap.size+1+1+1+1≠w.heap.size+1+1+1 by omega)) (Aq.setRow_other (Aq.setRow_other (B2.out.ext (An.drew W0)) #[k4,k1,k5] (show w.heap.size≠w.heap.size+1+1 by omega)) #[fk,fa] (show w.heap.size≠w.heap.size+1+1+1 by omega)))
 clear ag;refine wp_region_held_drew (S:=fun w'=>w'.cell? ⟨w.heap.size+1+1+1+1,0,none⟩=some (.int .i64 k4)∧w'.cell? ⟨w.heap.size+1+1+1+1,1,none⟩=some (.int .i64 k1)∧w'.cell? ⟨w.heap.size+1+1+1+1,2,none⟩=some (.int .i64 k5)∧w'.cell? ⟨w,0,none⟩=some (.int .i64 fk)∧w'.cell? ⟨w,1,none⟩=some (.int .i64 fa)) (by kernel_rfl) tu.out (fun aa=>?_)
 refine Bv (i:=0) (v:=(.agg #[k4,k1,k5])) rfl aa ?_
 refine Bv (i:=1) (v:=(.agg #[fk,fa])) rfl aa ?_
 refine wpAnyH_ready (rs:=[2]) (by kernel_rfl) (by simp) ?_
 refine AllReadyH.cons rfl (fun K hK=>?_) AllReadyH.nil
 first
  |(
   guard_hyp N2
   refine Ca rfl 185 (.tmp 4) (.tmp 49) rfl (w.heap.size+1+1) 0 #[k4,k1,k5] rfl rfl 185 #[.int .i64 0,.int .i64 0,.int .i64 0] (B4.out.ext (An.drew _)) Fl (Nat.le_refl _) (by simp[Value.oneCell']) ?_)
  |(
   refine Ca rfl 185 (.tmp 4) (.tmp 34) rfl (w.heap.size+1+1) 0 #[k4,k1,k5] rfl rfl 185 #[.int .i64 0,.int .i64 0,.int .i64 0] (B4.out.ext (An.drew _)) Fl (Nat.le_refl _) (by simp[Value.oneCell']) ?_)
 refine hK.out _ _ JI.out (fun af=>?_)
 clear hK K aa
 try simp only[List.getElem_toArray,List.getElem_cons_zero,List.getElem_cons_succ,Act.put,List.setIfInBounds_toArray,List.set_cons_zero,List.set_cons_succ]
 refine wpAnyH_ready (rs:=[3]) (by kernel_rfl) (by simp) ?_
 refine AllReadyH.cons rfl (fun K hK=>?_) AllReadyH.nil
 first
  |(
   guard_hyp N2
   refine Ca rfl 36 (.tmp 5) (.tmp 50) rfl (w.heap.size+1+1+1) 0 #[fk,fa] rfl rfl 36 #[.int .i64 0,.int .i64 0] (Aq.setRow_other (B5.out.ext (An.drew _)) _ (by omega)) Dz (Nat.le_refl _) (by simp[Value.oneCell']) ?_)
  |(
   refine Ca rfl 36 (.tmp 5) (.tmp 35) rfl (w.heap.size+1+1+1) 0 #[fk,fa] rfl rfl 36 #[.int .i64 0,.int .i64 0] (Aq.setRow_other (B5.out.ext (An.drew _)) _ (by omega)) Dz (Nat.le_refl _) (by simp[Value.oneCell']) ?_)
 refine hK.out _ _ zl.out (fun bb=>?_)
 clear hK K af
 try simp only[List.getElem_toArray,List.getElem_cons_zero,List.getElem_cons_succ,Act.put,List.setIfInBounds_toArray,List.set_cons_zero,List.set_cons_succ]
 first
  |(
   guard_hyp N2
   refine Bv (i:=4) (v:=(0:Int)) rfl bb ?_)
  |(
   refine Bv (i:=4) (v:=(5:Int)) rfl bb ?_)
 refine wpAnyH_done (by kernel_rfl) ?_ _
 go_wp2_with fail
 first
  |(
   guard_hyp N2
   refine bodyPost_ret (v:=.tuple #[.agg #[k4,k1,k5],.agg #[fk,fa],(0:Int)]) ?_ rfl ⟨⟨_,_,_,_,_,rfl,.inl ⟨rfl,by unfold J3;rw[if_neg h1,if_neg h2,if_neg h3]⟩⟩,An.setRow (An.setRow (HX.out.trans (An.drew _)) (by omega) _) (by omega) _⟩)
  |(
   refine bodyPost_ret (v:=.tuple #[.agg #[k4,k1,k5],.agg #[fk,fa],(5:Int)]) ?_ rfl ⟨⟨_,_,_,_,_,rfl,.inr ⟨rfl,by subst hk;subst hf;rfl⟩⟩,An.setRow (An.setRow (HX.out.trans (An.drew _)) (by omega) _) (by omega) _⟩)
 exact Hh rfl _ _ (w.heap.size+1+1) (w.heap.size+1+1+1) 185 36 _ _ _ _ _ _ _ rfl rfl rfl (Aq.setRow_other (Aq.setRow (B4.out.ext (An.drew _)) _) _ (by omega)) (Aq.setRow (Aq.setRow_other (B5.out.ext (An.drew _)) _ (by omega)) _) Tryz.underlying185 rfl Fl Tryz.underlying36 rfl Dz):p:=h
theorem K6 (h:p:=by
 first
  |(
   guard_hyp N1
   obtain rfl:i=(j:Int):=by have:=RP.out;omega
   have ae:j<n:=by omega
   have xf:Hid (xS ls (Lb ⟨ls,mo,(a:Int),sl,pl,ol⟩ p) a=if P4 (Lb ⟨ls,mo,(a:Int),sl,pl,ol⟩ p) (gL ls j)then some j else xS ls (Lb ⟨ls,mo,(a:Int),sl,pl,ol⟩ p) j):=A6 (by rw[qu.out,xS])
   clear qu RP)
  |(
   have xf:Hid (xT ls (Lb ⟨ls,mo,(a:Int),sl,pl,ol⟩ p) n (n-(a+1))=if P4 (Lb ⟨ls,mo,(a:Int),sl,pl,ol⟩ p) (gL ls j)then some j else xT ls (Lb ⟨ls,mo,(a:Int),sl,pl,ol⟩ p) n (n-(j+1))):=A6 (by
    rw[qu.out,show n-j=(n-(j+1))+1 by omega,xT,show n-(n-(j+1)+1)=j by omega])
   clear qu)
 have DE:=A6 (ay.out.trans ld.out);have B3r:=A6 (Aq.ext B3.out ld.out);have B6r:=A6 (Aq.ext B6.out ld.out);obtain⟨ad,v,rfl,hc,B7,m7,c7,rfl,JK,VE,vp⟩:=(HL.out.ext DE.out).at_ ae;obtain⟨k0,k1,k2,k3,k4,k5⟩:=Cu B3r.out;have hm7':m7≤200:=by
  have h1:=(dB.1 ln.out.2.1).1 j (by simp only;rw[HN.out];exact ae)
  simp only at h1;have:=JK.len;omega
 have FT:=A6 (eV (HT.out.ext ld.out) JK (by omega) LZ (by omega))
 clear JK VE vp;go_wp2_with fail
 refine FT.out.mono ?_
 rintro e w2 ⟨rfl,au⟩;have bt:=A6 (ld.out.trans au);clear FT k0 k1 k2 k3 k4 k5 hc;cases hf:P4 (Lb ⟨ls,mo,(a:Int),sl,pl,ol⟩ p) (gL ls j)
 first
  |(
   guard_hyp N1
   ·have HF:=A6 hf
    clear hf;go_wp2_with fail
    go_roundw
    case rel=>exact⟨j,_,rfl,A6 (by omega),by omega,A6 (by rw[xf.out,HF.out];rfl),A6 bt.out⟩
    case measure=>simp[intOf];omega)
  |(
   ·have HF:=A6 hf
    clear hf;go_wp2_with fail
    go_roundw
    case rel=>exact⟨j+1,by go_num,by omega,by omega,A6 (by rw[xf.out,HF.out];rfl),A6 bt.out⟩
    case measure=>simp[intOf];omega)
 ·have HF:=A6 hf
  clear hf
  first
   |(
    guard_hyp N1
    have FJ:Hid (Y7 ⟨ls,mo,(a:Int),sl,pl,ol⟩ now p true j):=A6 ⟨ln.out,by rw[qv.out];exact p9,fun e=>by have:=HT.out.len;rw[e]at this;simp at this;omega,by
     unfold cA;simp only[if_true,Int.toNat_natCast];rw[xf.out,HF.out]
     rfl⟩)
   |(
    have FJ:Hid (Y7 ⟨ls,mo,(a:Int),sl,pl,ol⟩ now p false j):=A6 ⟨ln.out,by rw[qv.out];exact p9,fun e=>by have:=HT.out.len;rw[e]at this;simp at this;omega,by
     unfold cA;simp only[Bool.false_eq_true,if_false,Int.toNat_natCast];rw[HN.out,xf.out,HF.out]
     rfl⟩)
  have AS:=A6 (ay.out.trans bt.out);have HTo:=A6 (aX (k:=j) (HV.out.ext AS.out) (by simp only;rw[HN.out];omega) (qw.out.ext AS.out) hN (by omega) (by simp only;rw[HN.out];omega))
  have B32:=A6 (Aq.ext B3r.out au);have B62:=A6 (Aq.ext B6r.out au);have iu:w.heap.size+2≤w2.heap.size:=Nat.le_trans iw bt.out.hsize;obtain⟨k0,k1,k2,k3,k4,k5⟩:=Cu B32.out;clear B3r B6r DE ld au HF;go_wp2_with fail
  refine HTo.out.mono ?_
  rintro e w3 ⟨u,L,m,zz,rfl,hO,j9,ki,cu,DF⟩;obtain⟨O',n',c',S',bp,bq,P2,pn2,pc2,rfl,ue,AT,AU⟩:=hO;simp only[toH]at ue AT;have zn:=A6 ue;have MA:=A6 AT;have FU:=A6 j9;have p8:=A6 ki;have AV:=A6 cu;have VF:=A6 DF;clear HTo k0 k1 k2 k3 k4 k5 ue AT AU j9 ki cu DF;unfold Ct;simp only[toH];go_upto_region 18 with fail
  have b14:=A6 (Aq.new w3 94 #[.slice O' n' c',.int .i64 mo,.int .i64 (j:Int),.slice S' bp bq,.slice P2 pn2 pc2,.bool ol]);have jd:=A6 (An.alloc w3 (.cells #[.slice O' n' c',mo,j,.slice S' bp bq,.slice P2 pn2 pc2,ol] 94));change Code.wp _ _ _ _ (w3.alloc (.cells #[.slice O' n' c',mo,j,.slice S' bp bq,.slice P2 pn2 pc2,ol] 94));generalize w3.alloc (.cells #[.slice O' n' c',mo,j,.slice S' bp bq,.slice P2 pn2 pc2,ol] 94)=W at*;have AW:w3.heap.size≤w3.heap.size:=Nat.le_refl _;have nd:w.heap.size+2≤w3.heap.size:=Nat.le_trans iu AV.out.hsize;have RQ:w3.heap.size<W.heap.size:=b14.out.lt;have ww:=A6 (Dj (((HT.out.ext bt.out).ext AV.out).ext jd.out) RR.out (by omega))
  have B63:=A6 (Aq.ext (Aq.ext B62.out AV.out) jd.out);go_wp2_with fail
  refine ww.out.mono ?_
  rintro e w4 ⟨Bc,zc,rfl,FV,FW,ik⟩;have b144:=A6 (Aq.ext b14.out ik);have B64:=A6 (Aq.ext B63.out ik);have ai:w3.heap.size≠w.heap.size+1:=by omega
  first
   |(
    guard_hyp N1
    have b145:=A6 ((b144.out.set_ 4 (.slice Bc t zc)).set_ 5 (.bool true));have B65:=A6 (Bn (Bn B64.out ai 4 (.slice Bc t zc)) ai 5 (.bool true));have qx:=A6 (((jd.out.trans ik).setCell (p:=⟨w3,4,none⟩) AW (.slice Bc t zc)).setCell (p:=⟨w3,5,none⟩) AW (.bool true));have xg:=A6 ((Bd.setCell FV (p:=⟨w3,4,none⟩) RQ (.slice Bc t zc)).setCell (p:=⟨w3,5,none⟩) RQ (.bool true)))
   |(
    have b145:=A6 ((b144.out.set_ 4 (.slice Bc t zc)).set_ 5 (.bool false));have B65:=A6 (Bn (Bn B64.out ai 4 (.slice Bc t zc)) ai 5 (.bool false));have qx:=A6 (((jd.out.trans ik).setCell (p:=⟨w3,4,none⟩) AW (.slice Bc t zc)).setCell (p:=⟨w3,5,none⟩) AW (.bool false));have xg:=A6 ((Bd.setCell FV (p:=⟨w3,4,none⟩) RQ (.slice Bc t zc)).setCell (p:=⟨w3,5,none⟩) RQ (.bool false)))
  have lb:=A6 FW;obtain⟨c0,c1,c2,c3,c4,c5⟩:=Cu b144.out;obtain⟨g0,g1,g2,g3,g4,g5⟩:=Et b144.out;clear ww FV FW ik b14 jd B63 B62 B32;go_upto_region 19 with fail
  clear c0 c1 c2 c3 c4 c5 g0 g1 g2 g3 g4 g5 b144 B64
  first
   |(
    guard_hyp N1
    generalize (w4.setCell ⟨w3,4,none⟩ (.slice Bc t zc)).setCell ⟨w3,5,none⟩ (.bool true)=W5 at *)
   |(
    generalize (w4.setCell ⟨w3,4,none⟩ (.slice Bc t zc)).setCell ⟨w3,5,none⟩ (.bool false)=W5 at *)
  have FX:=A6 ((zn.out.ext qx.out).lower (show w.heap.size+2≤w2.heap.size from iu))
  have FY:=A6 ((MA.out.ext qx.out).lower (show w.heap.size+2≤w2.heap.size from iu))
  have FZ:=A6 (Bd.lower (FU.out.ext qx.out) (show w.heap.size+2≤w2.heap.size from iu))
  have xh:=A6 (Bd.lower xg.out (show w.heap.size+2≤W.heap.size by omega))
  first
   |(
    guard_hyp N1
    have qy:Hid (Dp W5 (w.heap.size+2) (.agg (Ct O' n' c' mo (j:Int) S' bp bq Bc t zc true)) (findH ⟨ls,mo,(a:Int),sl,pl,ol⟩ now p true j)):=A6 ⟨O',n',c',S',bp,bq,Bc,t,zc,rfl,FX.out,FY.out,Bc,t,zc,rfl,xh.out,lb.out,by omega⟩)
   |(
    have qy:Hid (Dp W5 (w.heap.size+2) (.agg (Ct O' n' c' mo (j:Int) S' bp bq Bc t zc false)) (findH ⟨ls,mo,(a:Int),sl,pl,ol⟩ now p false j)):=A6 ⟨O',n',c',S',bp,bq,Bc,t,zc,rfl,FX.out,FY.out,Bc,t,zc,rfl,xh.out,lb.out,by omega⟩)
  have cd:w.heap.size+1<w.heap.size+2:=by omega
  first
   |(
    guard_hyp N1
    have io:=A6 (J2 qy.out cd (.slice O' n' c') (.int .i64 mo) (.int .i64 (j:Int)) (.slice S' bp bq) (.slice Bc t zc) (.bool true));have jp:=A6 (Jt FZ.out cd (.slice O' n' c') (.int .i64 mo) (.int .i64 (j:Int)) (.slice S' bp bq) (.slice Bc t zc) (.bool true));have dv:=A6 (Fo ((AS.out.trans AV.out).trans qx.out) (show w.heap.size≤w.heap.size+1 by omega) (.slice O' n' c') (.int .i64 mo) (.int .i64 (j:Int)) (.slice S' bp bq) (.slice Bc t zc) (.bool true))
    have kc:=A6 (Fp B65.out (.slice O' n' c') (.int .i64 mo) (.int .i64 (j:Int)) (.slice S' bp bq) (.slice Bc t zc) (.bool true));have zo:=A6 (Ng (show H7 W5 (w.heap.size+2) (.slice L m zz) (.agg (Ct O' n' c' mo (j:Int) S' bp bq Bc t zc true)) (findH ⟨ls,mo,(a:Int),sl,pl,ol⟩ now p true j)from H7.pat ((VF.out.ext qx.out).lower iu) ⟨Bc,t,zc,rfl,xh.out,lb.out,by omega⟩ (fun g hg e=>by have a1:=(Bd.blk xg.out g hg).1;have a2:=(Bd.blk FU.out g e).2;omega)) cd (.slice O' n' c') (.int .i64 mo) (.int .i64 (j:Int)) (.slice S' bp bq) (.slice Bc t zc) (.bool true)))
   |(
    have io:=A6 (J2 qy.out cd (.slice O' n' c') (.int .i64 mo) (.int .i64 (j:Int)) (.slice S' bp bq) (.slice Bc t zc) (.bool false));have jp:=A6 (Jt FZ.out cd (.slice O' n' c') (.int .i64 mo) (.int .i64 (j:Int)) (.slice S' bp bq) (.slice Bc t zc) (.bool false));have dv:=A6 (Fo ((AS.out.trans AV.out).trans qx.out) (show w.heap.size≤w.heap.size+1 by omega) (.slice O' n' c') (.int .i64 mo) (.int .i64 (j:Int)) (.slice S' bp bq) (.slice Bc t zc) (.bool false))
    have kc:=A6 (Fp B65.out (.slice O' n' c') (.int .i64 mo) (.int .i64 (j:Int)) (.slice S' bp bq) (.slice Bc t zc) (.bool false));have zo:=A6 (Ng (show H7 W5 (w.heap.size+2) (.slice L m zz) (.agg (Ct O' n' c' mo (j:Int) S' bp bq Bc t zc false)) (findH ⟨ls,mo,(a:Int),sl,pl,ol⟩ now p false j)from H7.pat ((VF.out.ext qx.out).lower iu) ⟨Bc,t,zc,rfl,xh.out,lb.out,by omega⟩ (fun g hg e=>by have a1:=(Bd.blk xg.out g hg).1;have a2:=(Bd.blk FU.out g e).2;omega)) cd (.slice O' n' c') (.int .i64 mo) (.int .i64 (j:Int)) (.slice S' bp bq) (.slice Bc t zc) (.bool false)))
  obtain⟨c0,c1,c2,c3,c4,c5⟩:=Cu b145.out;obtain⟨d0,d1,d2,d3,d4,d5⟩:=Cu B65.out;obtain⟨f0,f1,f2,f3,f4,f5⟩:=Et B65.out;unfold Rr at io jp dv kc zo;clear VF zn MA FU AV qx xg FX FY FZ xh qy B65 b145;go_wp2_with fail
  first
   |(
    guard_hyp N1
    refine bodyPost_ret (v:=.tuple #[.agg (Ct O' n' c' mo (j:Int) S' bp bq Bc t zc true),.slice L m zz,(0:Int)]) ?_ rfl ⟨dv.out,.inl ⟨j,FJ.out,by simp only;rw[HN.out];exact ae,_,L,m,zz,rfl,io.out.lower (by omega),Bd.lower jp.out (by omega),p8.out,zo.out.lower (by omega)⟩⟩)
   |(
    refine bodyPost_ret (v:=.tuple #[.agg (Ct O' n' c' mo (j:Int) S' bp bq Bc t zc false),.slice L m zz,(0:Int)]) ?_ rfl ⟨dv.out,.inl ⟨j,FJ.out,by simp only;rw[HN.out];exact ae,_,L,m,zz,rfl,io.out.lower (by omega),Bd.lower jp.out (by omega),p8.out,zo.out.lower (by omega)⟩⟩)
  exact Ej rfl _ _ (w.heap.size+1) 94 _ _ _ _ _ rfl rfl rfl kc.out Tryz.underlying94 rfl (Fm rfl)):p:=h
theorem K7 (h:p:=by
 have HV:=A6 hv;obtain⟨A,n,c,S,sn,sc,P,pn,pc,rfl,hn,ky⟩:=hv.cells;obtain⟨ls,mo,at_,sl,pl,ol⟩:=h;simp only at hn ⊢;have HN:=A6 hn;have qw:=A6 cy;have dr:=A6 cy.len;have a9:=A6 ((Aq.new w 94 (Ct A n c mo at_ S sn sc P pn pc ol)).ext (An.alloc _ (.cells Eb 94)));have al:Hid (Aq ((w.alloc (.cells (Ct A n c mo at_ S sn sc P pn pc ol) 94)).alloc (.cells Eb 94)) (w.heap.size+1) 94 Eb):=A6 (by
  have:=Aq.new (w.alloc (.cells (Ct A n c mo at_ S sn sc P pn pc ol) 94)) 94 Eb
  rwa[World.size_alloc]at this)
 have am:Hid (An w ((w.alloc (.cells (Ct A n c mo at_ S sn sc P pn pc ol) 94)).alloc (.cells Eb 94))):=A6 ((An.alloc _ _).to_alloc _);have HR:=A6 (Ta (k:=k) (HV.out.ext am.out) (cy.ext am.out));have f7:Hid (w.heap.size+2≤((w.alloc (.cells (Ct A n c mo at_ S sn sc P pn pc ol) 94)).alloc (.cells Eb 94)).heap.size):=A6 (by simp)
 unfold maxLen at ky;clear hv hn cy;unfold Ct Eb at*
 first
  |(
   guard_hyp N1
   go_enter Tryz.func96,Tryz.ntmps96)
  |(
   guard_hyp N2
   go_enter Tryz.func97,Tryz.ntmps97)
  |(
   go_enter Tryz.func95,Tryz.ntmps95)
 go_wp2_with fail
 refine HR.out.mono ?_
 rintro e w1 ⟨x,rfl,dn,aj⟩;have ay:=A6 (am.out.trans aj);have B3:=A6 (Aq.ext a9.out aj);have B6:=A6 (Aq.ext al.out aj);have iw:w.heap.size+2≤w1.heap.size:=Nat.le_trans f7.out aj.hsize;have HG:=A6 dn;obtain⟨k0,k1,k2,k3,k4,k5⟩:=Cu B3.out;obtain⟨d0,d1,d2,d3,d4,d5⟩:=Cu B6.out;obtain⟨f0,f1,f2,f3,f4,f5⟩:=Et B6.out;have HX:=A6 (Fo ay.out (show w.heap.size≤w.heap.size+1 by omega) (.slice none 0 0) (.int .i64 0) (.int .i64 0) (.slice none 0 0) (.slice none 0 0) (.bool false))
 have cn:=A6 (Fp B6.out (.slice none 0 0) (.int .i64 0) (.int .i64 0) (.slice none 0 0) (.slice none 0 0) (.bool false));unfold Rr at HX cn;clear HR a9 al am aj dn;by_cases am:x=0
 first
  |(
   guard_hyp N1
   ·subst am
    have hg:=HG.out.1 rfl;obtain⟨g1,_,g3,g4,g5⟩:=hg;unfold Hi.bad at g1;simp only at g1;rw[HN.out]at g1;rw[dr.out]at g3;obtain⟨a,rfl⟩:∃a:Nat,at_=a:=⟨at_.toNat,by omega⟩
    have ha:a≤n:=by omega
    have AX:n≤50:=by omega
    have ln:=A6 (HG.out.1 rfl);clear g1;obtain⟨f,j7,ne,hf3⟩:∃f:Nat,Fv k=f∧max 1 k=(f:Int)∧f≤999:=⟨Fv k,rfl,by unfold Fv;omega,by unfold Fv;omega⟩
    have ip:=A6 j7;have fu:=A6 ne;clear j7 ne;have ql:(k=0∨k=1)∨1<k:=by omega
    by_cases hfa:n<a+f
    ·have du:Hid (¬(Gh ⟨ls,mo,(a:Int),sl,pl,ol⟩ now k∧(Fv k:Int)+(a:Int)≤(ls.length:Int))):=A6 (fun hh=>by have h2:=hh.2;have h3:=ip.out;have h4:=HN.out;omega)
     clear HG ln;rcases ql with fv|fv
     ·obtain rfl:f=1:=by have:=fu.out;omega
      rcases fv with rfl|rfl
      all_goals
       have GA:(n:Int)-a<1:=by omega
       exact I2
     ·have uf:Hid (k=(f:Int)):=A6 (by have:=fu.out;omega)
      have GA:(n:Int)-a<k:=by have:=uf.out;omega
      exact I2
    ·have cw:Hid (Gh ⟨ls,mo,(a:Int),sl,pl,ol⟩ now k∧(Fv k:Int)+(a:Int)≤(ls.length:Int)):=A6 ⟨ln.out,by have h3:=ip.out;have h4:=HN.out;omega⟩
     have AM:Hid (((a:Int).toNat+Fv k)=a+f):=A6 (by have h3:=ip.out;simp only[h3];first|rfl|(simp))
     have HT:Hid (Calls Tryz.prog 127 #[.agg #[.slice A n c,mo,a,.slice S sn sc,.slice P pn pc,ol],.slice N q y,.int .i64 ((a+f:Nat):Int)] w1 fun e w'=>∃u L m z,e=.returned (.tuple #[u,.slice L m z,(0:Int)])∧Dp w' w1.heap.size u (toH ⟨ls,mo,(a:Int),sl,pl,ol⟩ now (a+f))∧Ba w' w1.heap.size L m z (toL ⟨ls,mo,(a:Int),sl,pl,ol⟩ now (a+f))∧(L=none→z=0)∧An w1 w'):=A6
      (rT (HV.out.ext ay.out) (by simp only;rw[HN.out];omega) (qw.out.ext ay.out) hN (by omega) (by simp only;rw[HN.out];omega))
     clear HG ln HX cn;rcases ql with fv|fv
     ·obtain rfl:f=1:=by have:=fu.out;omega
      rcases fv with rfl|rfl
      all_goals
       have GA:(1:Int)≤(n:Int)-a:=by omega
       rw[show(((a+1:Nat):Nat):Int)=(a:Int)+1 by omega]at HT
       go_wp2_with fail
       refine HT.out.mono ?_
       rintro e w2 ⟨u,L,m,z,rfl,hO,j9,ki,au⟩;obtain⟨O',n',c',S',bp,bq,P',bc,pc',rfl,mj⟩:=hO;have B62:=A6 (Aq.ext B6.out au);obtain⟨d0,d1,d2,d3,d4,d5⟩:=Cu B62.out;obtain⟨f0,f1,f2,f3,f4,f5⟩:=Et B62.out;have cd:w.heap.size+1<w1.heap.size:=by omega
       have io:=A6 (J2 (show Dp w2 w1.heap.size _ _ from⟨O',n',c',S',bp,bq,P',bc,pc',rfl,mj⟩) cd (.slice O' n' c') (.int .i64 mo) (.int .i64 ((a+1:Nat):Int)) (.slice S' bp bq) (.slice P' bc pc') (.bool ol))
       have jp:=A6 (Jt j9 cd (.slice O' n' c') (.int .i64 mo) (.int .i64 ((a+1:Nat):Int)) (.slice S' bp bq) (.slice P' bc pc') (.bool ol));have dv:=A6 (Fo (ay.out.trans au) (show w.heap.size≤w.heap.size+1 by omega) (.slice O' n' c') (.int .i64 mo) (.int .i64 ((a+1:Nat):Int)) (.slice S' bp bq) (.slice P' bc pc') (.bool ol))
       have kc:=A6 (Fp B62.out (.slice O' n' c') (.int .i64 mo) (.int .i64 ((a+1:Nat):Int)) (.slice S' bp bq) (.slice P' bc pc') (.bool ol));have p8:=A6 ki;unfold Rr at io jp dv kc;clear mj j9 ki au HT;unfold Ct;simp only[toH];go_wp2_with fail
       refine bodyPost_ret (v:=.tuple #[.agg (Ct O' n' c' mo ((a+1:Nat):Int) S' bp bq P' bc pc' ol),.slice L m z,(0:Int)]) ?_ rfl ⟨dv.out,.inl ⟨cw.out,_,L,m,z,rfl,?_,?_,p8.out⟩⟩
       ·exact I7
       ·rw[AM.out]
        exact io.out.lower (by omega)
       ·exact I118
     ·have uf:Hid (k=(f:Int)):=A6 (by have:=fu.out;omega)
      have GA:k≤(n:Int)-a:=by have:=uf.out;omega
      rw[show(((a+f:Nat):Nat):Int)=(a:Int)+k by have:=uf.out;omega]at HT
      go_wp2_with fail
      refine HT.out.mono ?_
      rintro e w2 ⟨u,L,m,z,rfl,hO,j9,ki,au⟩;obtain⟨O',n',c',S',bp,bq,P',bc,pc',rfl,mj⟩:=hO;have B62:=A6 (Aq.ext B6.out au);obtain⟨d0,d1,d2,d3,d4,d5⟩:=Cu B62.out;obtain⟨f0,f1,f2,f3,f4,f5⟩:=Et B62.out;have cd:w.heap.size+1<w1.heap.size:=by omega
      have io:=A6 (J2 (show Dp w2 w1.heap.size _ _ from⟨O',n',c',S',bp,bq,P',bc,pc',rfl,mj⟩) cd (.slice O' n' c') (.int .i64 mo) (.int .i64 ((a+f:Nat):Int)) (.slice S' bp bq) (.slice P' bc pc') (.bool ol))
      have jp:=A6 (Jt j9 cd (.slice O' n' c') (.int .i64 mo) (.int .i64 ((a+f:Nat):Int)) (.slice S' bp bq) (.slice P' bc pc') (.bool ol));have dv:=A6 (Fo (ay.out.trans au) (show w.heap.size≤w.heap.size+1 by omega) (.slice O' n' c') (.int .i64 mo) (.int .i64 ((a+f:Nat):Int)) (.slice S' bp bq) (.slice P' bc pc') (.bool ol))
      have kc:=A6 (Fp B62.out (.slice O' n' c') (.int .i64 mo) (.int .i64 ((a+f:Nat):Int)) (.slice S' bp bq) (.slice P' bc pc') (.bool ol));have p8:=A6 ki;unfold Rr at io jp dv kc;clear mj j9 ki au HT;unfold Ct;simp only[toH];go_wp2_with fail
      refine bodyPost_ret (v:=.tuple #[.agg (Ct O' n' c' mo ((a+f:Nat):Int) S' bp bq P' bc pc' ol),.slice L m z,(0:Int)]) ?_ rfl ⟨dv.out,.inl ⟨cw.out,_,L,m,z,rfl,?_,?_,p8.out⟩⟩
      ·exact I7
      ·rw[AM.out]
       exact io.out.lower (by omega)
      ·rw[AM.out]
       exact Bd.lower jp.out (by omega))
  |(
   guard_hyp N2
   ·subst am
    have hg:=HG.out.1 rfl;obtain⟨g1,_,g3,g4,g5⟩:=hg;unfold Hi.bad at g1;simp only at g1;rw[HN.out]at g1;rw[dr.out]at g3;have AX:n≤50:=by omega
    have ln:=A6 (HG.out.1 rfl);clear g1;by_cases jc:(n:Int)<k∨n=0
    ·have du:Hid (¬(Gh ⟨ls,mo,at_,sl,pl,ol⟩ now k∧k≤(ls.length:Int)∧0<ls.length)):=A6 (fun hh=>by have h2:=hh.2;have h4:=HN.out;omega)
     clear HG ln;rcases Int.lt_or_le (n:Int) k with ae|dy
     ·clear jc
      exact I2
     ·obtain rfl:n=0:=by omega
      obtain rfl:k=0:=by omega
      clear jc dy;exact I2
    ·have dy:k≤(n:Int):=by omega
     have jx:((n:Int)==0)=false:=by
      have h0:(n:Int)≠0:=by omega
      simpa using h0
     have cw:Hid (Gh ⟨ls,mo,at_,sl,pl,ol⟩ now k∧k≤(ls.length:Int)∧0<ls.length):=A6 ⟨ln.out,by have h4:=HN.out;omega,by have h4:=HN.out;omega⟩
     obtain⟨f,j7,ne,hf3⟩:∃f:Nat,Ru k=f∧max 0 (k-1)=(f:Int)∧f≤n:=⟨Ru k,rfl,by unfold Ru;omega,by unfold Ru;omega⟩
     have ip:=A6 j7;have fu:=A6 ne;have HT:Hid (Calls Tryz.prog 127 #[.agg #[.slice A n c,mo,at_,.slice S sn sc,.slice P pn pc,ol],.slice N q y,.int .i64 (f:Int)] w1 fun e w'=>∃u L m z,e=.returned (.tuple #[u,.slice L m z,(0:Int)])∧Dp w' w1.heap.size u (toH ⟨ls,mo,at_,sl,pl,ol⟩ now f)∧Ba w' w1.heap.size L m z (toL ⟨ls,mo,at_,sl,pl,ol⟩ now f)∧(L=none→z=0)∧An w1 w'):=A6
      (rT (HV.out.ext ay.out) (by simp only;rw[HN.out];omega) (qw.out.ext ay.out) hN (by omega) (by simp only;rw[HN.out];omega))
     have ql:k=0∨k=1∨0<k-1:=by omega
     clear HG ln HX cn j7 ne jc;rcases ql with rfl|rfl|fv
     ·exact I0
     ·exact I0
     ·have uf:((f:Nat):Int)=k-1:=by have:=fu.out;omega
      rw[uf]at HT;have HK:=A6 uf;clear uf;go_wp2_with fail
      refine HT.out.mono ?_
      rintro e w2 ⟨u,L,m,z,rfl,hO,j9,ki,au⟩;obtain⟨O',n',c',S',bp,bq,P',bc,pc',rfl,mj⟩:=hO;have B62:=A6 (Aq.ext B6.out au);obtain⟨d0,d1,d2,d3,d4,d5⟩:=Cu B62.out;obtain⟨f0,f1,f2,f3,f4,f5⟩:=Et B62.out;have cd:w.heap.size+1<w1.heap.size:=by omega
      have io:=A6 (J2 (show Dp w2 w1.heap.size _ _ from⟨O',n',c',S',bp,bq,P',bc,pc',rfl,mj⟩) cd (.slice O' n' c') (.int .i64 mo) (.int .i64 ((f:Nat):Int)) (.slice S' bp bq) (.slice P' bc pc') (.bool ol))
      have jp:=A6 (Jt j9 cd (.slice O' n' c') (.int .i64 mo) (.int .i64 ((f:Nat):Int)) (.slice S' bp bq) (.slice P' bc pc') (.bool ol));have dv:=A6 (Fo (ay.out.trans au) (show w.heap.size≤w.heap.size+1 by omega) (.slice O' n' c') (.int .i64 mo) (.int .i64 ((f:Nat):Int)) (.slice S' bp bq) (.slice P' bc pc') (.bool ol))
      have kc:=A6 (Fp B62.out (.slice O' n' c') (.int .i64 mo) (.int .i64 ((f:Nat):Int)) (.slice S' bp bq) (.slice P' bc pc') (.bool ol));have p8:=A6 ki;unfold Rr at io jp dv kc;clear mj j9 ki au HT;unfold Ct;simp only[toH];go_wp2_with fail
      refine bodyPost_ret (v:=.tuple #[.agg (Ct O' n' c' mo ((f:Nat):Int) S' bp bq P' bc pc' ol),.slice L m z,(0:Int)]) ?_ rfl ⟨dv.out,.inl ⟨cw.out,_,L,m,z,rfl,?_,?_,p8.out⟩⟩
      ·exact I7
      ·rw[ip.out]
       exact io.out.lower (by omega)
      ·rw[ip.out]
       exact Bd.lower jp.out (by omega))
  |(
   ·subst am
    have hg:=HG.out.1 rfl;obtain⟨g1,_,g3,g4,g5⟩:=hg;unfold Hi.bad at g1;simp only at g1;rw[HN.out]at g1;rw[dr.out]at g3;obtain⟨a,rfl⟩:∃a:Nat,at_=a:=⟨at_.toNat,by omega⟩
    have ha:a≤n:=by omega
    have AX:n≤50:=by omega
    have ln:=A6 (HG.out.1 rfl);clear g1;obtain⟨f,j7,ne,hf3⟩:∃f:Nat,Fv k=f∧max 1 k=(f:Int)∧f≤999:=⟨Fv k,rfl,by unfold Fv;omega,by unfold Fv;omega⟩
    have ip:=A6 j7;have fu:=A6 ne;clear j7 ne;have ql:(k=0∨k=1)∨1<k:=by omega
    by_cases hfa:a<f
    ·have du:Hid (¬(Gh ⟨ls,mo,(a:Int),sl,pl,ol⟩ now k∧(Fv k:Int)≤(a:Int))):=A6 (fun hh=>by have h2:=hh.2;have h3:=ip.out;have h4:=HN.out;omega)
     clear HG ln;rcases ql with fv|fv
     ·obtain rfl:f=1:=by have:=fu.out;omega
      rcases fv with rfl|rfl
      all_goals
       have GA:(a:Int)<1:=by omega
       exact I2
     ·have uf:Hid (k=(f:Int)):=A6 (by have:=fu.out;omega)
      have GA:(a:Int)<k:=by have:=uf.out;omega
      exact I2
    ·have cw:Hid (Gh ⟨ls,mo,(a:Int),sl,pl,ol⟩ now k∧(Fv k:Int)≤(a:Int)):=A6 ⟨ln.out,by have h3:=ip.out;have h4:=HN.out;omega⟩
     have AM:Hid (((a:Int).toNat-Fv k)=a-f):=A6 (by have h3:=ip.out;simp only[h3];first|rfl|(simp))
     have HT:Hid (Calls Tryz.prog 127 #[.agg #[.slice A n c,mo,a,.slice S sn sc,.slice P pn pc,ol],.slice N q y,.int .i64 ((a-f:Nat):Int)] w1 fun e w'=>∃u L m z,e=.returned (.tuple #[u,.slice L m z,(0:Int)])∧Dp w' w1.heap.size u (toH ⟨ls,mo,(a:Int),sl,pl,ol⟩ now (a-f))∧Ba w' w1.heap.size L m z (toL ⟨ls,mo,(a:Int),sl,pl,ol⟩ now (a-f))∧(L=none→z=0)∧An w1 w'∧H7 w' w1.heap.size (.slice L m z) u (toH ⟨ls,mo,(a:Int),sl,pl,ol⟩ now (a-f))):=A6
      (aX (HV.out.ext ay.out) (by simp only;rw[HN.out];omega) (qw.out.ext ay.out) hN (by omega) (by simp only;rw[HN.out];omega))
     clear HG ln HX cn;rcases ql with fv|fv
     ·obtain rfl:f=1:=by have:=fu.out;omega
      rcases fv with rfl|rfl
      all_goals
       have GA:(1:Int)≤a:=by omega
       rw[show(((a-1:Nat):Nat):Int)=(a:Int)-1 by omega]at HT
       go_wp2_with fail
       refine HT.out.mono ?_
       rintro e w2 ⟨u,L,m,z,rfl,hO,j9,ki,au,DF⟩;obtain⟨O',n',c',S',bp,bq,P',bc,pc',rfl,mj⟩:=hO;have B62:=A6 (Aq.ext B6.out au);obtain⟨d0,d1,d2,d3,d4,d5⟩:=Cu B62.out;obtain⟨f0,f1,f2,f3,f4,f5⟩:=Et B62.out;have cd:w.heap.size+1<w1.heap.size:=by omega
       have io:=A6 (J2 (show Dp w2 w1.heap.size _ _ from⟨O',n',c',S',bp,bq,P',bc,pc',rfl,mj⟩) cd (.slice O' n' c') (.int .i64 mo) (.int .i64 ((a-1:Nat):Int)) (.slice S' bp bq) (.slice P' bc pc') (.bool ol))
       have jp:=A6 (Jt j9 cd (.slice O' n' c') (.int .i64 mo) (.int .i64 ((a-1:Nat):Int)) (.slice S' bp bq) (.slice P' bc pc') (.bool ol));have zo:=A6 (Ng DF cd (.slice O' n' c') (.int .i64 mo) (.int .i64 ((a-1:Nat):Int)) (.slice S' bp bq) (.slice P' bc pc') (.bool ol));have dv:=A6 (Fo (ay.out.trans au) (show w.heap.size≤w.heap.size+1 by omega) (.slice O' n' c') (.int .i64 mo) (.int .i64 ((a-1:Nat):Int)) (.slice S' bp bq) (.slice P' bc pc') (.bool ol))
       have kc:=A6 (Fp B62.out (.slice O' n' c') (.int .i64 mo) (.int .i64 ((a-1:Nat):Int)) (.slice S' bp bq) (.slice P' bc pc') (.bool ol));have p8:=A6 ki;unfold Rr at io jp dv kc zo;clear mj j9 ki au HT DF;unfold Ct;simp only[toH];go_wp2_with fail
       refine bodyPost_ret (v:=.tuple #[.agg (Ct O' n' c' mo ((a-1:Nat):Int) S' bp bq P' bc pc' ol),.slice L m z,(0:Int)]) ?_ rfl ⟨dv.out,.inl ⟨cw.out,_,L,m,z,rfl,?_,?_,p8.out,?_⟩⟩
       ·exact I7
       ·rw[AM.out]
        exact io.out.lower (by omega)
       ·exact I118
       ·rw[AM.out]
        exact zo.out.lower (by omega)
     ·have uf:Hid (k=(f:Int)):=A6 (by have:=fu.out;omega)
      have GA:k≤a:=by have:=uf.out;omega
      rw[show(((a-f:Nat):Nat):Int)=(a:Int)-k by have:=uf.out;omega]at HT
      go_wp2_with fail
      refine HT.out.mono ?_
      rintro e w2 ⟨u,L,m,z,rfl,hO,j9,ki,au,DF⟩;obtain⟨O',n',c',S',bp,bq,P',bc,pc',rfl,mj⟩:=hO;have B62:=A6 (Aq.ext B6.out au);obtain⟨d0,d1,d2,d3,d4,d5⟩:=Cu B62.out;obtain⟨f0,f1,f2,f3,f4,f5⟩:=Et B62.out;have cd:w.heap.size+1<w1.heap.size:=by omega
      have io:=A6 (J2 (show Dp w2 w1.heap.size _ _ from⟨O',n',c',S',bp,bq,P',bc,pc',rfl,mj⟩) cd (.slice O' n' c') (.int .i64 mo) (.int .i64 ((a-f:Nat):Int)) (.slice S' bp bq) (.slice P' bc pc') (.bool ol))
      have jp:=A6 (Jt j9 cd (.slice O' n' c') (.int .i64 mo) (.int .i64 ((a-f:Nat):Int)) (.slice S' bp bq) (.slice P' bc pc') (.bool ol));have zo:=A6 (Ng DF cd (.slice O' n' c') (.int .i64 mo) (.int .i64 ((a-f:Nat):Int)) (.slice S' bp bq) (.slice P' bc pc') (.bool ol));have dv:=A6 (Fo (ay.out.trans au) (show w.heap.size≤w.heap.size+1 by omega) (.slice O' n' c') (.int .i64 mo) (.int .i64 ((a-f:Nat):Int)) (.slice S' bp bq) (.slice P' bc pc') (.bool ol))
      have kc:=A6 (Fp B62.out (.slice O' n' c') (.int .i64 mo) (.int .i64 ((a-f:Nat):Int)) (.slice S' bp bq) (.slice P' bc pc') (.bool ol));have p8:=A6 ki;unfold Rr at io jp dv kc zo;clear mj j9 ki au HT DF;unfold Ct;simp only[toH];go_wp2_with fail
      refine bodyPost_ret (v:=.tuple #[.agg (Ct O' n' c' mo ((a-f:Nat):Int) S' bp bq P' bc pc' ol),.slice L m z,(0:Int)]) ?_ rfl ⟨dv.out,.inl ⟨cw.out,_,L,m,z,rfl,?_,?_,p8.out,?_⟩⟩
      ·exact I7
      ·rw[AM.out]
       exact io.out.lower (by omega)
      ·exact I118
      ·rw[AM.out]
       exact zo.out.lower (by omega))
 ·have GB:(x !=0)=true:=by simpa using am
  first
   |(
    guard_hyp N1
    have du:Hid (¬(Gh ⟨ls,mo,at_,sl,pl,ol⟩ now k∧(Fv k:Int)+at_≤(ls.length:Int))):=A6 (fun hh=>am (HG.out.2 hh.1)))
   |(
    guard_hyp N2
    have du:Hid (¬(Gh ⟨ls,mo,at_,sl,pl,ol⟩ now k∧k≤(ls.length:Int)∧0<ls.length)):=A6 (fun hh=>am (HG.out.2 hh.1)))
   |(
    have du:Hid (¬(Gh ⟨ls,mo,at_,sl,pl,ol⟩ now k∧(Fv k:Int)≤at_)):=A6 (fun hh=>am (HG.out.2 hh.1)))
  have qz:=A6 am;clear am HG;go_wp2_with fail
  refine bodyPost_ret (v:=.tuple #[.agg Eb,(),x]) ?_ rfl ⟨HX.out,.inr ⟨du.out,x,rfl,qz.out⟩⟩
  exact Ej rfl _ _ (w.heap.size+1) 94 _ _ _ _ _ rfl rfl rfl cn.out Tryz.underlying94 rfl (Fm rfl)):p:=h
theorem K8 (h:p:=by
 have kl:¬(([]:List Nat).length=0∧Hk b=0):=fun h=>me h.2
 have hwi:((Hk b:Int)==0)=false:=by simp;omega
 obtain⟨wb,VG⟩:∃wb,Hk b=wb:=⟨_,rfl⟩;rw[VG]at HW hwi;clear me VG;go_wp2_with fail
 refine(HW.out _).mono ?_
 rintro e w' ⟨rfl,rfl⟩;clear HW
 first
  |(
   guard_hyp N1
   have jr:Hid ((([]:List Nat)++[b]).length=Hk (gN (([]:List Nat)++[b]) 0)→Kw ⟨ah,out⟩ b=⟨[],(out++[65533])++[(J9 (([]:List Nat)++[b]):Int)]⟩):=A6 fun h=>by
    exact I101
   have js:Hid (¬(([]:List Nat)++[b]).length=Hk (gN (([]:List Nat)++[b]) 0)→Kw ⟨ah,out⟩ b=⟨([]:List Nat)++[b],(out++[65533])⟩):=A6 fun h=>by
    rw[HP.out];unfold Ll;rw[if_neg kl];exact if_neg h)
  |(
   have jr:Hid ((([]:List Nat)++[b]).length=Hk (gN (([]:List Nat)++[b]) 0)→Kw ⟨[],out⟩ b=⟨[],out++[(J9 (([]:List Nat)++[b]):Int)]⟩):=A6 fun h=>by
    exact I101
   have js:Hid (¬(([]:List Nat)++[b]).length=Hk (gN (([]:List Nat)++[b]) 0)→Kw ⟨[],out⟩ b=⟨([]:List Nat)++[b],out⟩):=A6 fun h=>by
    rw[HP.out];unfold Ll;rw[if_neg kl];exact if_neg h)
 have LM:Hid (∀x∈([]:List Nat)++[b],x<256):=A6 (by
  intro x hx;rcases List.mem_append.1 hx with hx|hx
  ·exact AY.out x hx
  ·obtain rfl:=List.mem_singleton.1 hx;exact DG)
 have xi:=Bd.apart ho ha (by decide)
 have MB:(Value.slice A 0 c).ownBlock≠some g:=fun e=>by have:=(Bd.blk ha g e).1;omega
 have dk:=hb.lt;have vo:=A6 hb;have vq:=A6 ho;have GC:=A6 xi;have GD:=A6 MB;clear xi MB hb ho HP kl;go_wp2_with (at_builtin;refine C9 rfl (.tmp 48) (.tmp 50) 121 rfl w0 (g+1) 5 i8 (.int .u8 0) 1 1 Tryz.underlying121 hi8 hy0 hy1 hy2 rfl (by decide) A 0 c _ rfl ha #[.int .u8 b] rfl ?_ rfl ?_ ?_ vr (by omega) dk ?_)
 ·rfl
 ·unfold maxLen;omega
 ·omega
 first
  |(
   guard_hyp N1
   ·intro A2 c4 w3 pq av cf bg
    have ap:=vo.out.grown av (fun e=>GD.out e.symm)
    have c0:=ap.cell 0;have f0:=ap.frozen 0;simp only[List.getElem?_toArray,List.getElem?_cons_zero,List.getElem?_cons_succ]at c0;have cv:=Bd.kept vq.out av GC.out;have bn:Aq (w3.setCell ⟨g,0,none⟩ (.slice A2 1 c4)) g 134 #[.slice A2 1 c4,.slice O q' d]:=by simpa using ap.set_ 0 (.slice A2 1 c4)
    have fm:Bd (w3.setCell ⟨g,0,none⟩ (.slice A2 1 c4)) (g+1) 5 1 A2 1 c4 ((([]:List Nat)++[b]).map bv):=by
     exact I97
    have si:Ba (w3.setCell ⟨g,0,none⟩ (.slice A2 1 c4)) (g+1) O q' d (out++[65533]):=Bd.setCell cv (p:=⟨g,0,none⟩) (Nat.lt_succ_self g) (.slice A2 1 c4);have nf:=bg.setCell (p:=⟨g,0,none⟩) hg (.slice A2 1 c4);have KV:=ap.lt;clear pq av cf bg ap cv vo vq GC GD ha vr k0 k1 f1;go_wp2_with fail
    clear c0 f0
    revert bn fm si nf
    generalize w3.setCell ⟨g,0,none⟩ (.slice A2 1 c4)=w4;intro bn fm si nf;obtain⟨bs,fy⟩:∃bs,([]:List Nat)++[b]=bs:=⟨_,rfl⟩;rw[fy]at fm jr js LM;clear fy;have eb:bs.length=1:=by have:=(Bd.rd fm).len;rw[List.length_map]at this;omega
    obtain⟨ad,MC,sk⟩:=cB (Bd.rd fm) (k:=0) (by omega)
    rw[Ei]at sk;subst MC;have k0:=bn.cell 0;have k1:=bn.cell 1;have f0:=bn.frozen 0;have f1:=bn.frozen 1;simp only[List.getElem?_toArray,List.getElem?_cons_zero,List.getElem?_cons_succ]at k0 k1;have MD:=A6 (Px (gN bs 0));have zp:=Ny (Rd.ext (Bd.rd fm) (An.drew w4));have HG:Hid (∀wq,Calls Tryz.prog 38 #[.string (Em bs)] wq fun e w'=>e=.returned (.tuple #[.int .i64 (J9 bs),.int .i64 (Lc bs),.int .i64 (J8 bs)])∧wq=w'):=A6 fun wq=>by
     exact I92
    have qc:=A6 bn;have ME:=A6 fm;have ow:=A6 si;have rb:=A6 nf;have RT:=(Bd.rd fm).ncap;have AZ:=(Bd.rd fm).nmax;unfold maxLen at AZ;have jj:=bn.lt;have ox:=A6 eb;clear bn fm si nf eb;generalize zq:Hk (gN bs 0)=wz at*;generalize gN bs 0=a0 at*;have Hwz:=A6 zq;clear zq;go_region_held3 (fun w'=>w'.cell? ⟨g,0,none⟩=some (.slice (some ad) 1 c4)∧w'.cell? ad=some (.int .u8 a0)) (first|assumption|exact⟨k0,sk⟩)
     ((go_at_call 123;refine(MD.out _).mono ?_;rintro e w' ⟨rfl,rfl⟩))
    by_cases dd:1=wz
    ·have ny:((1:Int)==(wz:Int))=true:=by simp;omega
     have HR:=A6 (jr.out (by rw[ox.out];exact dd))
     generalize J9 bs=gc at*;generalize Lc bs=gw at*;generalize J8 bs=ge at*;clear dd;go_wp2_with fail
     refine(HG.out _).mono ?_
     rintro e w' ⟨rfl,rfl⟩;have ac:=Ba.ext ow.out (An.drew w4);have nv:=rb.out.to_drew;have sm:g+1≤w4.drew.heap.size:=jj;clear zp sk;go_wp2_with (at_builtin;refine C9 rfl (.tmp 81) (.tmp 83) 25 rfl w0 (g+1) 3 i0 (.int .i64 0) 1 8 Tryz.underlying25 hi bm bz az rfl (by decide) O q' d _ rfl ac #[gc] rfl ?_ rfl ?_ ?_ nv (by omega) sm ?_)
     ·rfl
     ·unfold maxLen;omega
     ·omega
     ·intro O2 d2 w5 db av cf bg
      have ai:(Value.slice O q' d).ownBlock≠some g:=fun e=>by have:=(Bd.blk ow.out g e).1;omega
      have cg:=(qc.out.drewN 1).grown av (fun e=>ai e.symm)
      have c0:=cg.cell 0;have c1:=cg.cell 1;have f0:=cg.frozen 0;have f1:=cg.frozen 1;simp only[List.getElem?_toArray,List.getElem?_cons_zero,List.getElem?_cons_succ]at c0 c1;have eo:Aq (w5.setCell ⟨g,1,none⟩ (.slice O2 (q'+1) d2)) g 134 #[.slice (some ad) 1 c4,.slice O2 (q'+1) d2]:=by simpa using cg.set_ 1 (.slice O2 (q'+1) d2)
      have f4:=eo.frozen 0;have c6:=eo.cell 0;simp only[List.getElem?_toArray,List.getElem?_cons_zero,List.getElem?_cons_succ]at c6;have ia:Aq ((w5.setCell ⟨g,1,none⟩ (.slice O2 (q'+1) d2)).setCell ⟨g,0,none⟩ (.slice none 0 0)) g 134 #[.slice none 0 0,.slice O2 (q'+1) d2]:=by simpa using eo.set_ 0 (.slice none 0 0)
      have vl:Ba ((w5.setCell ⟨g,1,none⟩ (.slice O2 (q'+1) d2)).setCell ⟨g,0,none⟩ (.slice none 0 0)) (g+1) O2 (q'+1) d2 ((out++[65533])++[(gc:Int)]):=by
       have:=Bd.setCell (Bd.setCell db (p:=⟨g,1,none⟩) (Nat.lt_succ_self g) (.slice O2 (q'+1) d2)) (p:=⟨g,0,none⟩) (Nat.lt_succ_self g) (.slice none 0 0)
       simpa[Ba]using this
      have HX:=A6 ((bg.setCell (p:=⟨g,1,none⟩) hg (.slice O2 (q'+1) d2)).setCell (p:=⟨g,0,none⟩) hg (.slice none 0 0));have HF:Hid (Fx ((w5.setCell ⟨g,1,none⟩ (.slice O2 (q'+1) d2)).setCell ⟨g,0,none⟩ (.slice none 0 0)) g ⟨[],(out++[65533])++[(gc:Int)]⟩):=A6 ⟨none,0,0,O2,q'+1,d2,ia,Bd.nil _ _ _ _,vl⟩;exact I150
    ·have ny:((1:Int)==(wz:Int))=false:=by simp;omega
     have HR:=A6 (js.out (by rw[ox.out];exact dd))
     have HF:Hid (Fx w4.drew g ⟨bs,(out++[65533])⟩):=A6 ⟨some ad,1,c4,O,q',d,qc.out.drewN 1,Bd.ext ME.out (An.drew w4),Ba.ext ow.out (An.drew w4)⟩;clear dd zp sk;go_wp2_with fail
     go_end0
     exact⟨rfl,by rw[HR.out];exact HF.out,rb.out.to_drew⟩)
  |(
   ·intro A2 c4 w3 pq av cf bg
    have ap:=vo.out.grown av (fun e=>GD.out e.symm)
    have c0:=ap.cell 0;have f0:=ap.frozen 0;simp only[List.getElem?_toArray,List.getElem?_cons_zero,List.getElem?_cons_succ]at c0;have cv:=Bd.kept vq.out av GC.out;have bn:Aq (w3.setCell ⟨g,0,none⟩ (.slice A2 1 c4)) g 134 #[.slice A2 1 c4,.slice O q d]:=by simpa using ap.set_ 0 (.slice A2 1 c4)
    have fm:Bd (w3.setCell ⟨g,0,none⟩ (.slice A2 1 c4)) (g+1) 5 1 A2 1 c4 ((([]:List Nat)++[b]).map bv):=by
     exact I97
    have si:Ba (w3.setCell ⟨g,0,none⟩ (.slice A2 1 c4)) (g+1) O q d out:=Bd.setCell cv (p:=⟨g,0,none⟩) (Nat.lt_succ_self g) (.slice A2 1 c4);have nf:=bg.setCell (p:=⟨g,0,none⟩) hg (.slice A2 1 c4);have KV:=ap.lt;clear pq av cf bg ap cv vo vq GC GD ha vr k0 k1 f1;go_wp2_with fail
    clear c0 f0
    revert bn fm si nf
    generalize w3.setCell ⟨g,0,none⟩ (.slice A2 1 c4)=w4;intro bn fm si nf;obtain⟨bs,fy⟩:∃bs,([]:List Nat)++[b]=bs:=⟨_,rfl⟩;rw[fy]at fm jr js LM;clear fy;have eb:bs.length=1:=by have:=(Bd.rd fm).len;rw[List.length_map]at this;omega
    obtain⟨ad,MC,sk⟩:=cB (Bd.rd fm) (k:=0) (by omega)
    rw[Ei]at sk;subst MC;have k0:=bn.cell 0;have k1:=bn.cell 1;have f0:=bn.frozen 0;have f1:=bn.frozen 1;simp only[List.getElem?_toArray,List.getElem?_cons_zero,List.getElem?_cons_succ]at k0 k1;have MD:=A6 (Px (gN bs 0));have zp:=Ny (Rd.ext (Bd.rd fm) (An.drew w4));have HG:Hid (∀wq,Calls Tryz.prog 38 #[.string (Em bs)] wq fun e w'=>e=.returned (.tuple #[.int .i64 (J9 bs),.int .i64 (Lc bs),.int .i64 (J8 bs)])∧wq=w'):=A6 fun wq=>by
     exact I92
    have qc:=A6 bn;have ME:=A6 fm;have ow:=A6 si;have rb:=A6 nf;have RT:=(Bd.rd fm).ncap;have AZ:=(Bd.rd fm).nmax;unfold maxLen at AZ;have jj:=bn.lt;have ox:=A6 eb;clear bn fm si nf eb;generalize zq:Hk (gN bs 0)=wz at*;generalize gN bs 0=a0 at*;have Hwz:=A6 zq;clear zq;go_region_held3 (fun w'=>w'.cell? ⟨g,0,none⟩=some (.slice (some ad) 1 c4)∧w'.cell? ad=some (.int .u8 a0)) (first|assumption|exact⟨k0,sk⟩)
     ((go_at_call 123;refine(MD.out _).mono ?_;rintro e w' ⟨rfl,rfl⟩))
    by_cases dd:1=wz
    ·have ny:((1:Int)==(wz:Int))=true:=by simp;omega
     have HR:=A6 (jr.out (by rw[ox.out];exact dd))
     generalize J9 bs=gc at*;generalize Lc bs=gw at*;generalize J8 bs=ge at*;clear dd;go_wp2_with fail
     refine(HG.out _).mono ?_
     rintro e w' ⟨rfl,rfl⟩;have ac:=Ba.ext ow.out (An.drew w4);have nv:=rb.out.to_drew;have sm:g+1≤w4.drew.heap.size:=jj;clear zp sk;go_wp2_with (at_builtin;refine C9 rfl (.tmp 81) (.tmp 83) 25 rfl w0 (g+1) 3 i0 (.int .i64 0) 1 8 Tryz.underlying25 hi bm bz az rfl (by decide) O q d _ rfl ac #[gc] rfl ?_ rfl ?_ ?_ nv (by omega) sm ?_)
     ·rfl
     ·unfold maxLen;omega
     ·omega
     ·intro O2 d2 w5 db av cf bg
      have ai:(Value.slice O q d).ownBlock≠some g:=fun e=>by have:=(Bd.blk ow.out g e).1;omega
      have cg:=(qc.out.drewN 1).grown av (fun e=>ai e.symm)
      have c0:=cg.cell 0;have c1:=cg.cell 1;have f0:=cg.frozen 0;have f1:=cg.frozen 1;simp only[List.getElem?_toArray,List.getElem?_cons_zero,List.getElem?_cons_succ]at c0 c1;have eo:Aq (w5.setCell ⟨g,1,none⟩ (.slice O2 (q+1) d2)) g 134 #[.slice (some ad) 1 c4,.slice O2 (q+1) d2]:=by simpa using cg.set_ 1 (.slice O2 (q+1) d2)
      exact I6
    ·have ny:((1:Int)==(wz:Int))=false:=by simp;omega
     have HR:=A6 (js.out (by rw[ox.out];exact dd))
     have HF:Hid (Fx w4.drew g ⟨bs,out⟩):=A6 ⟨some ad,1,c4,O,q,d,qc.out.drewN 1,Bd.ext ME.out (An.drew w4),Ba.ext ow.out (An.drew w4)⟩;clear dd zp sk;go_wp2_with fail
     go_end0
     exact⟨rfl,by rw[HR.out];exact HF.out,rb.out.to_drew⟩)):p:=h
theorem K9 (h:p:=by
 first
  |(
   guard_hyp N5
   obtain⟨h1,h2,h3,h4,h5,hr,je,kj⟩:=Gf h;have HC:Hid (∀wq:World,_):=A6 fun(wq:World)=>Xx s k wq ⟨h3,h4⟩ hk
   obtain⟨c,hc⟩:∃c,Du s k=c:=⟨_,rfl⟩;rw[hc]at HC;rw[hc];clear hc h1 h2 h3 h4 h5 hr je kj hk;have ke:(o !=0)=true:=by simpa using ho
   have le:(o==0)=false:=by simpa using ho
   clear ho;obtain⟨a9,al,ak,hx⟩:=three (w:=w) (.int .i64 f) (.int .i64 r) (.int .i64 o) (.int .i64 s) (.int .i64 0) (.int .i64 0) (.int .i64 0) (.int .i64 0) (.int .i64 0) (.int .i64 0) (.int .i64 0) (.int .i64 0) (.int .i64 0) (.int .i64 0) (.int .i64 0))
  |(
   (first|guard_hyp N6|guard_hyp N7)
   obtain⟨h1,h2,h3,h4,h5,hr,je,kj⟩:=Gf h;have HC:Hid (∀wq:World,_):=A6 fun(wq:World)=>Ma ⟨f,r,o,s,0⟩ k 0 wq ⟨h1,h2⟩ ⟨h3,h4⟩
   unfold Kb xN at HC;simp only at HC;unfold Mp at HC;simp only at HC;obtain⟨Uu,ht⟩:∃Uu,Qp ⟨f,r,o,s,0⟩=Uu:=⟨_,rfl⟩;rw[ht]at HC;have HT:=A6 ht;clear ht h1 h2 h3 h4 h5 hr je kj;obtain⟨a9,al,ak,hx⟩:=three (w:=w) (.int .i64 f) (.int .i64 r) (.int .i64 o) (.int .i64 s) (.int .i64 0) (.int .i64 0) (.int .i64 0) (.int .i64 0) (.int .i64 0) (.int .i64 0) (.int .i64 0) (.int .i64 0) (.int .i64 0) (.int .i64 0) (.int .i64 0))
  |(
   guard_hyp N8
   have ke:(o==0)=false:=by simpa using ho
   have le:(o !=k)=false:=by simpa using cw
   clear ho cw;obtain⟨h1,h2,h3,h4,h5,hr,je,kj⟩:=Gf h;have HC:Hid (∀wq:World,_):=A6 fun(wq:World)=>Ma ⟨f,r,o,s,0⟩ k 0 wq ⟨h1,h2⟩ ⟨h3,h4⟩
   unfold Kb xN at HC;simp only at HC;unfold Mp at HC;simp only at HC;obtain⟨Uu,ht⟩:∃Uu,Qp ⟨f,r,o,s,0⟩=Uu:=⟨_,rfl⟩;rw[ht]at HC;have HT:=A6 ht;clear ht h1 h2 h3 h4 h5 hr je kj;obtain⟨a9,al,ak,hx⟩:=three (w:=w) (.int .i64 f) (.int .i64 r) (.int .i64 o) (.int .i64 s) (.int .i64 0) (.int .i64 0) (.int .i64 0) (.int .i64 0) (.int .i64 0) (.int .i64 0) (.int .i64 0) (.int .i64 0) (.int .i64 0) (.int .i64 0) (.int .i64 0))
  |(
   guard_hyp N9
   obtain⟨h1,h2,h3,h4,h5,hr,je,kj⟩:=Gf h;have HC:Hid (∀wq:World,_):=A6 fun(wq:World)=>Xx f k wq ⟨h1,h2⟩ hk
   obtain⟨c,hc⟩:∃c,Du f k=c:=⟨_,rfl⟩;rw[hc]at HC;rw[hc];clear hc h1 h2 h3 h4 h5 hr je kj hk;obtain⟨a9,al,ak,hx⟩:=three (w:=w) (.int .i64 f) (.int .i64 r) (.int .i64 0) (.int .i64 s) (.int .i64 0) (.int .i64 0) (.int .i64 0) (.int .i64 0) (.int .i64 0) (.int .i64 0) (.int .i64 0) (.int .i64 0) (.int .i64 0) (.int .i64 0) (.int .i64 0))
  |(
   guard_hyp N10
   obtain⟨a9,al,ak,hx⟩:=three (w:=w) (.int .i64 f) (.int .i64 r) (.int .i64 0) (.int .i64 s) (.int .i64 0) (.int .i64 0) (.int .i64 0) (.int .i64 0) (.int .i64 0) (.int .i64 0) (.int .i64 0) (.int .i64 0) (.int .i64 0) (.int .i64 0) (.int .i64 0))
  |(
   guard_hyp N11
   have ke:(o==0)=false:=by simpa using ho
   have le:(o !=k)=true:=by simpa using cw
   clear ho cw;obtain⟨a9,al,ak,hx⟩:=three (w:=w) (.int .i64 f) (.int .i64 r) (.int .i64 o) (.int .i64 s) (.int .i64 0) (.int .i64 0) (.int .i64 0) (.int .i64 0) (.int .i64 0) (.int .i64 0) (.int .i64 0) (.int .i64 0) (.int .i64 0) (.int .i64 0) (.int .i64 0))
  |(
   obtain⟨a9,al,ak,hx⟩:=three (w:=w) (.int .i64 f) (.int .i64 r) (.int .i64 o) (.int .i64 s) (.int .i64 0) (.int .i64 0) (.int .i64 0) (.int .i64 0) (.int .i64 0) (.int .i64 0) (.int .i64 0) (.int .i64 0) (.int .i64 0) (.int .i64 0) (.int .i64 0))
 have BA:Hid (∀wq:World,_):=A6 fun(wq:World)=>Tb wq h
 unfold Kb at BA;simp only at BA
 first
  |(
   (first|guard_hyp N9|guard_hyp N10)
   have HK:Hid (∀wq:World,_):=A6 fun(wq:World)=>Uq ⟨f,r,0,s,0⟩ k wq)
  |(
   have HK:Hid (∀wq:World,_):=A6 fun(wq:World)=>Uq ⟨f,r,o,s,0⟩ k wq)
 rw[hz]at HK;unfold Kb at HK;simp only at HK;have kb:(k==127)=false:=by simpa using da
 clear hz;clear h;unfold Kb;simp only;go_enter Tryz.func65,Tryz.ntmps65
 go_wp2_with fail
 refine(BA.out _).mono ?_
 rintro e w1 ⟨rfl,aj⟩;have lb:=A6 (a9.ext aj);have dz:=A6 (al.ext aj);have eh:=A6 (ak.ext aj);have JL:=A6 (hx.trans aj);obtain⟨⟨q0,q1,q2,q3,q4⟩,⟨r0,r1,r2,r3,r4⟩⟩:=lb.out.five;clear a9 al ak hx BA aj;go_wp2_with fail
 refine(HK.out _).mono ?_
 rintro e w2 ⟨rfl,au⟩;have GE:=A6 (lb.out.ext au);have oa:=A6 (dz.out.ext au);have ms:=A6 (eh.out.ext au);have ug:=A6 (JL.out.trans au);clear HK lb dz eh JL au q0 q1 q2 q3 q4 r0 r1 r2 r3 r4;obtain⟨⟨q0,q1,q2,q3,q4⟩,⟨r0,r1,r2,r3,r4⟩⟩:=GE.out.five
 first
  |(
   (first|guard_hyp N0|guard_hyp N11)
   have ng:=D1 (.int .i64 0) (.int .i64 0) (.int .i64 0) (.int .i64 0) (.int .i64 0) (Mm (.int .i64 0) (.int .i64 0) (.int .i64 0) (.int .i64 0) (.int .i64 0) oa.out) (show w.heap.size+1+1≠w.heap.size+1 by omega)
   have ko:=Mm (.int .i64 0) (.int .i64 0) (.int .i64 0) (.int .i64 0) (.int .i64 0) (D1 (.int .i64 0) (.int .i64 0) (.int .i64 0) (.int .i64 0) (.int .i64 0) ms.out (show w.heap.size+1≠w.heap.size+1+1 by omega))
   have dq:=Do (.int .i64 0) (.int .i64 0) (.int .i64 0) (.int .i64 0) (.int .i64 0) (Do (.int .i64 0) (.int .i64 0) (.int .i64 0) (.int .i64 0) (.int .i64 0) ug.out (Nat.le_succ w.heap.size)) (show w.heap.size≤w.heap.size+1+1 by omega))
  |(
   guard_hyp N5
   go_wp2_with fail
   refine(HC.out _).mono ?_
   rintro e w' ⟨rfl,rfl⟩;clear HC;have GF:=A6 (show Aq (w2.setCell ⟨w,3,none⟩ c) w.heap.size 34 #[.int .i64 f,.int .i64 r,.int .i64 o,.int .i64 c,.int .i64 0]from by simpa using GE.out.set_ 3 (.int .i64 c))
   have ip:=A6 (oa.out.setNq (p:=⟨w,3,none⟩) (show w.heap.size≠w.heap.size+1 by omega) (.int .i64 c))
   have fu:=A6 (ms.out.setNq (p:=⟨w,3,none⟩) (show w.heap.size≠w.heap.size+1+1 by omega) (.int .i64 c))
   have BC:=A6 (ug.out.setCell (p:=⟨w,3,none⟩) (Nat.le_refl _) (.int .i64 c));obtain⟨⟨s0,s1,s2,s3,s4⟩,_⟩:=GF.out.five;have ng:=D1 (.int .i64 0) (.int .i64 0) (.int .i64 0) (.int .i64 0) (.int .i64 0) (Mm (.int .i64 f) (.int .i64 r) (.int .i64 o) (.int .i64 c) (.int .i64 0) ip.out) (show w.heap.size+1+1≠w.heap.size+1 by omega)
   have ko:=Mm (.int .i64 0) (.int .i64 0) (.int .i64 0) (.int .i64 0) (.int .i64 0) (D1 (.int .i64 f) (.int .i64 r) (.int .i64 o) (.int .i64 c) (.int .i64 0) fu.out (show w.heap.size+1≠w.heap.size+1+1 by omega))
   have dq:=Do (.int .i64 0) (.int .i64 0) (.int .i64 0) (.int .i64 0) (.int .i64 0) (Do (.int .i64 f) (.int .i64 r) (.int .i64 o) (.int .i64 c) (.int .i64 0) BC.out (Nat.le_succ w.heap.size)) (show w.heap.size≤w.heap.size+1+1 by omega))
  |(
   (first|guard_hyp N6|guard_hyp N7|guard_hyp N8)
   go_wp2_with fail
   refine(HC.out _).mono ?_
   rintro e w3 ⟨rfl,cu⟩;have ip:=A6 (oa.out.ext cu);have fu:=A6 (ms.out.ext cu);have BC:=A6 (ug.out.trans cu);clear HC GE oa ms ug cu;have ng:=D1 (.int .i64 Uu) (.int .i64 r) (.int .i64 o) (.int .i64 k) (.int .i64 0) (Mm (.int .i64 0) (.int .i64 0) (.int .i64 0) (.int .i64 0) (.int .i64 0) ip.out) (show w.heap.size+1+1≠w.heap.size+1 by omega)
   have ko:=Mm (.int .i64 Uu) (.int .i64 r) (.int .i64 o) (.int .i64 k) (.int .i64 0) (D1 (.int .i64 0) (.int .i64 0) (.int .i64 0) (.int .i64 0) (.int .i64 0) fu.out (show w.heap.size+1≠w.heap.size+1+1 by omega))
   have dq:=Do (.int .i64 Uu) (.int .i64 r) (.int .i64 o) (.int .i64 k) (.int .i64 0) (Do (.int .i64 0) (.int .i64 0) (.int .i64 0) (.int .i64 0) (.int .i64 0) BC.out (Nat.le_succ w.heap.size)) (show w.heap.size≤w.heap.size+1+1 by omega))
  |(
   guard_hyp N9
   go_wp2_with fail
   refine(HC.out _).mono ?_
   rintro e w' ⟨rfl,rfl⟩;clear HC;have GF:=A6 (show Aq (w2.setCell ⟨w,0,none⟩ c) w.heap.size 34 #[.int .i64 c,.int .i64 r,.int .i64 0,.int .i64 s,.int .i64 0]from by simpa using GE.out.set_ 0 (.int .i64 c))
   have ip:=A6 (oa.out.setNq (p:=⟨w,0,none⟩) (show w.heap.size≠w.heap.size+1 by omega) (.int .i64 c))
   have fu:=A6 (ms.out.setNq (p:=⟨w,0,none⟩) (show w.heap.size≠w.heap.size+1+1 by omega) (.int .i64 c))
   have BC:=A6 (ug.out.setCell (p:=⟨w,0,none⟩) (Nat.le_refl _) (.int .i64 c));obtain⟨⟨s0,s1,s2,s3,s4⟩,_⟩:=GF.out.five;have ng:=D1 (.int .i64 0) (.int .i64 0) (.int .i64 0) (.int .i64 0) (.int .i64 0) (Mm (.int .i64 c) (.int .i64 r) (.int .i64 0) (.int .i64 s) (.int .i64 0) ip.out) (show w.heap.size+1+1≠w.heap.size+1 by omega)
   have ko:=Mm (.int .i64 0) (.int .i64 0) (.int .i64 0) (.int .i64 0) (.int .i64 0) (D1 (.int .i64 c) (.int .i64 r) (.int .i64 0) (.int .i64 s) (.int .i64 0) fu.out (show w.heap.size+1≠w.heap.size+1+1 by omega))
   have dq:=Do (.int .i64 0) (.int .i64 0) (.int .i64 0) (.int .i64 0) (.int .i64 0) (Do (.int .i64 c) (.int .i64 r) (.int .i64 0) (.int .i64 s) (.int .i64 0) BC.out (Nat.le_succ w.heap.size)) (show w.heap.size≤w.heap.size+1+1 by omega))
  |(
   guard_hyp N10
   have GF:=A6 (show Aq (w2.setCell ⟨w,2,none⟩ k) w.heap.size 34 #[.int .i64 f,.int .i64 r,.int .i64 k,.int .i64 s,.int .i64 0]from by simpa using GE.out.set_ 2 (.int .i64 k))
   have ip:=A6 (oa.out.setNq (p:=⟨w,2,none⟩) (show w.heap.size≠w.heap.size+1 by omega) (.int .i64 k))
   have fu:=A6 (ms.out.setNq (p:=⟨w,2,none⟩) (show w.heap.size≠w.heap.size+1+1 by omega) (.int .i64 k))
   have BC:=A6 (ug.out.setCell (p:=⟨w,2,none⟩) (Nat.le_refl _) (.int .i64 k));obtain⟨⟨s0,s1,s2,s3,s4⟩,_⟩:=GF.out.five;have ng:=D1 (.int .i64 0) (.int .i64 0) (.int .i64 0) (.int .i64 0) (.int .i64 0) (Mm (.int .i64 f) (.int .i64 r) (.int .i64 k) (.int .i64 s) (.int .i64 0) ip.out) (show w.heap.size+1+1≠w.heap.size+1 by omega)
   have ko:=Mm (.int .i64 0) (.int .i64 0) (.int .i64 0) (.int .i64 0) (.int .i64 0) (D1 (.int .i64 f) (.int .i64 r) (.int .i64 k) (.int .i64 s) (.int .i64 0) fu.out (show w.heap.size+1≠w.heap.size+1+1 by omega))
   have dq:=Do (.int .i64 0) (.int .i64 0) (.int .i64 0) (.int .i64 0) (.int .i64 0) (Do (.int .i64 f) (.int .i64 r) (.int .i64 k) (.int .i64 s) (.int .i64 0) BC.out (Nat.le_succ w.heap.size)) (show w.heap.size≤w.heap.size+1+1 by omega))
  |(
   have GF:=A6 (show Aq (w2.setCell ⟨w,4,none⟩ k) w.heap.size 34 #[.int .i64 f,.int .i64 r,.int .i64 o,.int .i64 s,.int .i64 k]from by simpa using GE.out.set_ 4 (.int .i64 k))
   have ip:=A6 (oa.out.setNq (p:=⟨w,4,none⟩) (show w.heap.size≠w.heap.size+1 by omega) (.int .i64 k))
   have fu:=A6 (ms.out.setNq (p:=⟨w,4,none⟩) (show w.heap.size≠w.heap.size+1+1 by omega) (.int .i64 k))
   have BC:=A6 (ug.out.setCell (p:=⟨w,4,none⟩) (Nat.le_refl _) (.int .i64 k));obtain⟨⟨s0,s1,s2,s3,s4⟩,_⟩:=GF.out.five;have ng:=D1 (.int .i64 0) (.int .i64 0) (.int .i64 0) (.int .i64 0) (.int .i64 0) (Mm (.int .i64 f) (.int .i64 r) (.int .i64 o) (.int .i64 s) (.int .i64 k) ip.out) (show w.heap.size+1+1≠w.heap.size+1 by omega)
   have ko:=Mm (.int .i64 0) (.int .i64 0) (.int .i64 0) (.int .i64 0) (.int .i64 0) (D1 (.int .i64 f) (.int .i64 r) (.int .i64 o) (.int .i64 s) (.int .i64 k) fu.out (show w.heap.size+1≠w.heap.size+1+1 by omega))
   have dq:=Do (.int .i64 0) (.int .i64 0) (.int .i64 0) (.int .i64 0) (.int .i64 0) (Do (.int .i64 f) (.int .i64 r) (.int .i64 o) (.int .i64 s) (.int .i64 k) BC.out (Nat.le_succ w.heap.size)) (show w.heap.size≤w.heap.size+1+1 by omega))
 obtain⟨⟨e0,e1,e2,e3,e4⟩,_⟩:=ng.five;obtain⟨⟨d0,d1,d2,d3,d4⟩,_⟩:=ko.five
 first
  |(
   (first|guard_hyp N0|guard_hyp N11)
   obtain⟨⟨c0,c1,c2,c3,c4⟩,⟨f0,f1,f2,f3,f4⟩⟩:=Aq.five oa.out;obtain⟨⟨x0,x1,x2,x3,x4⟩,⟨y0,y1,y2,y3,y4⟩⟩:=Aq.five ms.out)
  |(
   obtain⟨⟨c0,c1,c2,c3,c4⟩,⟨f0,f1,f2,f3,f4⟩⟩:=Aq.five ip.out;obtain⟨⟨x0,x1,x2,x3,x4⟩,⟨y0,y1,y2,y3,y4⟩⟩:=Aq.five fu.out)
 clear ng ko
 first
  |(
   (first|guard_hyp N0|guard_hyp N6|guard_hyp N7|guard_hyp N8)
   clear q0 q1 q2 q3 q4 r0 r1 r2 r3 r4)
  |guard_hyp N11
  |(
   clear GE oa ms ug)
 go_wp2_with fail
 refine bodyPost_ret (by simp[results,Tryz.results65,go_sem,e0,e1,e2,e3,e4,d0,d1,d2,d3,d4];try rfl) rfl ?_
 first
  |(
   (first|guard_hyp N6|guard_hyp N7|guard_hyp N8)
   exact⟨by rw[←HT.out];rfl,dq⟩)
  |(
   exact⟨rfl,dq⟩)):p:=h
theorem K10 (h:p:=by
 first
  |(
   guard_hyp N1
   have hx:=An.alloc w (.cells #[k1,k2,(0:Int),(63:Int),k5] 62);have hc:=Aq.new w 62 #[.int .i64 k1,.int .i64 k2,.int .i64 0,.int .i64 63,.int .i64 k5])
  |(
   have hx:=An.alloc w (.cells #[k1,k2,(0:Int),(47:Int),k5] 62);have hc:=Aq.new w 62 #[.int .i64 k1,.int .i64 k2,.int .i64 0,.int .i64 47,.int .i64 k5])
 have HC:=A6 (Hc (h.ext hx).ses.dat.here.tr (by omega))
 have d0:=(h.ext hx).ses.blk.cell 0;have H:=A6 h;clear h;go_enter Tryz.func66,Tryz.ntmps66
 go_upto_region 1 with fail
 first
  |(
   guard_hyp N1
   generalize w.alloc (.cells #[k1,k2,(0:Int),(63:Int),k5] 62)=Wa at *)
  |(
   generalize w.alloc (.cells #[k1,k2,(0:Int),(47:Int),k5] 62)=Wa at *)
 have MF:Wa.cell? ⟨p,0,none⟩=some (.pointer v.tr):=d0;clear d0;go_wp2_with fail
 refine HC.out.mono ?_
 rintro e w1 ⟨_,rfl,⟨A,k,rfl,hA⟩,he⟩;have ay:=hx.trans he;have bh:=hc.ext he;have g0:w1.cell? ⟨w,0,none⟩=some (.int .i64 k1):=bh.cell 0;have g1:w1.cell? ⟨w,1,none⟩=some (.int .i64 k2):=bh.cell 1;have g2:w1.cell? ⟨w,2,none⟩=some (.int .i64 0):=bh.cell 2
 first
  |(
   guard_hyp N1
   have g3:w1.cell? ⟨w,3,none⟩=some (.int .i64 63):=bh.cell 3)
  |(
   have g3:w1.cell? ⟨w,3,none⟩=some (.int .i64 47):=bh.cell 3)
 have g4:w1.cell? ⟨w,4,none⟩=some (.int .i64 k5):=bh.cell 4;have jl:=A6 ay;have jt:=A6 bh;have GG:Hid (∀s' w',C6 p w1 col s' w'→C6 p w col s' w'):=A6 fun s' w' hd=>C6.trans ⟨jl.out.alt _,fun _ _ h=>h,fun _ _ h=>h⟩ hd
 clear hx hc MF he HC ay bh;go_upto_region 23 with fail
 have al:=H.out.ses.blk.ext (jl.out.to_drew)
 first
  |(
   guard_hyp N1
   have uh:Aq w1.drew w.heap.size 62 #[.int .i64 k1,.int .i64 k2,.int .i64 0,.int .i64 63,.int .i64 k5]:=jt.out)
  |(
   have uh:Aq w1.drew w.heap.size 62 #[.int .i64 k1,.int .i64 k2,.int .i64 0,.int .i64 47,.int .i64 k5]:=jt.out)
 have lp:=An.drew w1;have cc:=E5.start lp ((H.out.ses.blk.ext jl.out).ext lp);have ai:p≠w.heap.size:=by have:=H.out.ses.blk.lt;omega
 first
  |(
   guard_hyp N1
   refine wp_region_held_drew (S:=fun w'=>Aq w' w.heap.size 62 #[.int .i64 k1,.int .i64 k2,.int .i64 0,.int .i64 63,.int .i64 k5]) (by kernel_rfl) uh (fun hS=>?_))
  |(
   refine wp_region_held_drew (S:=fun w'=>Aq w' w.heap.size 62 #[.int .i64 k1,.int .i64 k2,.int .i64 0,.int .i64 47,.int .i64 k5]) (by kernel_rfl) uh (fun hS=>?_))
 clear g0 g1 g2 g3 g4;generalize w1.drew=cur at*;refine Bf (i:=0) (v:=some p) rfl hS ?_
 refine Bf (i:=1) (v:=some p) rfl hS ?_
 refine Bf (i:=2) (v:=some p) rfl hS ?_
 refine Bf (i:=3) (v:=(.pointer (some ⟨w,3,none⟩))) rfl hS ?_
 first
  |(
   guard_hyp N1
   refine Ga (i:=4) (v:=(63:Int)) rfl (fun w' ag=>by have e0:w'.cell? ⟨w,3,none⟩=some (.int .i64 63):=ag.cell 3;go_simp) hS ?_
   refine Bf (i:=5) (v:=(.bool false)) rfl hS ?_)
  |(
   refine Ga (i:=4) (v:=(47:Int)) rfl (fun w' ag=>by have e0:w'.cell? ⟨w,3,none⟩=some (.int .i64 47):=ag.cell 3;go_simp) hS ?_
   refine Bf (i:=5) (v:=(.bool true)) rfl hS ?_)
 refine Bf (i:=6) (v:=some p) rfl hS ?_
 refine Bf (i:=7) (v:=(.pointer (some ⟨p,2,none⟩))) rfl hS ?_
 have g2:cur.cell? ⟨p,2,none⟩=some (.int .i64 s.mode):=cc.blk.cell 2;have f2:=cc.blk.frozen 2;refine wpAnyH_ready (rs:=[8]) (by decide +kernel) (by simp) (AllReadyH.cons rfl (fun K hK=>?_) AllReadyH.nil)
 go_simp
 refine hK.out _ _ (Hg hS ai) (fun ao=>?_)
 replace hS:=ao;clear hK K ao g2 f2;replace cc:=cc.set 2 (.int .i64 3);generalize World.setCell _ _ _=W2 at*
 try simp only[List.getElem_toArray,List.getElem_cons_zero,List.getElem_cons_succ,Act.put,List.setIfInBounds_toArray,List.set_cons_zero,List.set_cons_succ]
 refine Bf (i:=9) (v:=some p) rfl hS ?_
 refine Bf (i:=10) (v:=(.pointer (some ⟨p,48,none⟩))) rfl hS ?_
 have g48:W2.cell? ⟨p,48,none⟩=some v.ask:=cc.blk.cell 48;have f48:=cc.blk.frozen 48;refine wpAnyH_ready (rs:=[11]) (by decide +kernel) (by simp) (AllReadyH.cons rfl (fun K hK=>?_) AllReadyH.nil)
 go_simp
 refine hK.out _ _ (Hg hS ai) (fun ao=>?_)
 replace hS:=ao;clear hK K ao g48 f48;replace cc:=cc.set 48 nl;unfold nl at cc;generalize World.setCell _ _ _=W3 at*
 try simp only[List.getElem_toArray,List.getElem_cons_zero,List.getElem_cons_succ,Act.put,List.setIfInBounds_toArray,List.set_cons_zero,List.set_cons_succ]
 refine Bf (i:=12) (v:=some p) rfl hS ?_
 refine Bf (i:=13) (v:=(.pointer (some ⟨p,49,none⟩))) rfl hS ?_
 have g49:W3.cell? ⟨p,49,none⟩=some (.bool s.older):=cc.blk.cell 49;have f49:=cc.blk.frozen 49;refine wpAnyH_ready (rs:=[14]) (by decide +kernel) (by simp) (AllReadyH.cons rfl (fun K hK=>?_) AllReadyH.nil)
 go_simp
 refine hK.out _ _ (Hg hS ai) (fun ao=>?_)
 clear hK K hS ao g49 f49
 first
  |(
   guard_hyp N1
   replace cc:=cc.set 49 (.bool false))
  |(
   replace cc:=cc.set 49 (.bool true))
 generalize World.setCell _ _ _=W4 at*
 first
  |(
   guard_hyp N1
   have HR:=A6 ((H.out.ext jl.out).chain cc { v with ask:=nl } (mB s false) (by kernel_rfl) (fun w'' _ ht hd=>⟨hd.1,hd.2,hd.3,hd.4,hd.5,hd.6,Bl.nil w'' 0,hd.8⟩)))
  |(
   have HR:=A6 ((H.out.ext jl.out).chain cc { v with ask:=nl } (mB s true) (by kernel_rfl) (fun w'' _ ht hd=>⟨hd.1,hd.2,hd.3,hd.4,hd.5,hd.6,Bl.nil w'' 0,hd.8⟩)))
 clear cc;refine wpAnyH_done (by kernel_rfl) ?_ _
 go_wp2_with fail
 go_end0
 exact⟨rfl,GG.out _ _ ⟨_,_,HR.out⟩⟩):p:=h
theorem K11 (h:p:=by
 first
  |(
   guard_hyp N1
   have MG:Hid (¬(Co l k big<l.length∧(Bb l big k=0∨Bb l big (Co l k big)=0))):=A6 (fun h=>by rw[ab.out]at h;omega)
   by_cases dk:Bk (gI l k) big=0
   ·have b1:(Bk (gI l k) big==0)=true:=by simpa using dk
    have HW:Hid (aG l k big=(E8 l k big,Co l k big)):=A6 (by unfold aG;rw[if_neg MG.out,if_neg (fun h=>h.1 (by rw[re.out];exact dk))])
    clear dk;have f0:=hq.frozen 0;have f1:=hq.frozen 1;have c4:=hq.cell 0;have c5:=hq.cell 1;simp only[List.getElem?_toArray,List.getElem?_cons_zero,List.getElem?_cons_succ]at c4 c5;go_wp2_with fail
    have bi:Aq ((w2.setCell ⟨w,0,none⟩ (.int .i64 (E8 l k big))).setCell ⟨w,1,none⟩ (.int .i64 (Co l k big))) w.heap.size 196 #[.int .i64 (E8 l k big),.int .i64 (Co l k big)]:=by
     exact I119
    have c6:=bi.cell 0;have c7:=bi.cell 1;simp only[List.getElem?_toArray,List.getElem?_cons_zero,List.getElem?_cons_succ]at c6 c7;clear c4 c5 f0 f1 c0 c1 bi;refine bodyPost_ret (by simp[results,Tryz.results117,go_sem,c6,c7];try rfl) rfl ?_
    exact⟨by rw[HW.out]<;>rfl,(ix.setCell (by simp) _).setCell (by simp) _⟩)
  |(
   have b1:(Bk (gI l k) big==0)=false:=by simpa using dk
   have ot:=A6 dk;clear dk;go_wp2_with fail
   refine(Jf _ _ _).mono ?_
   rintro e w3 ⟨rfl,rfl⟩;by_cases hz:Bk (gI l (Co l k big)) big=0
   ·have b2:(Bk (gI l (Co l k big)) big==0)=true:=by simpa using hz
    have HW:Hid (aG l k big=(E8 l k big,Co l (Co l k big) big)):=A6 (by unfold aG;rw[if_pos ⟨by rw[ab.out];exact ae,.inr (by rw[BD.out _ ae];exact hz)⟩])
    clear hz;go_wp2_with fail
    refine(M5 (k:=(Co l k big)) (big:=big) MH hn ae).mono ?_
    rintro e w3 ⟨rfl,cu⟩;rw[show Hr l big (Bb l big ((Co l k big):Nat)) (Co l k big)=E8 l (Co l k big) big from rfl,show Fi l big (Bb l big ((Co l k big):Nat)) (Co l k big)=Co l (Co l k big) big from rfl]
    have jq:=hq.ext cu;have xj:=hr.ext cu;have xk:=ix.trans cu;have g0:=xj.frozen 1;have e0:=xj.cell 0;have e1:=xj.cell 1;have f0:=jq.frozen 0;have f1:=jq.frozen 1;have c4:=jq.cell 0;have c5:=jq.cell 1;simp only[List.getElem?_toArray,List.getElem?_cons_zero,List.getElem?_cons_succ]at c4 c5 e0 e1;clear c0 c1;have n1:¬w1.heap.size=w.heap.size:=by omega
    have n2:¬w.heap.size=w1.heap.size:=by omega
    have qu:=Um (.int .i64 (E8 l (Co l k big) big)) (.int .i64 (Co l (Co l k big) big)) w3;go_wp2_with fail
    have bi:Aq (((w3.setCell ⟨w1,1,none⟩ (.int .i64 (Co l (Co l k big) big))).setCell ⟨w,0,none⟩ (.int .i64 (E8 l k big))).setCell ⟨w,1,none⟩ (.int .i64 (Co l (Co l k big) big))) w.heap.size 196 #[.int .i64 (E8 l k big),.int .i64 (Co l (Co l k big) big)]:=by
     exact I51
    have c6:=bi.cell 0;have c7:=bi.cell 1;simp only[List.getElem?_toArray,List.getElem?_cons_zero,List.getElem?_cons_succ]at c6 c7;clear c4 c5 f0 f1 e0 e1 g0 qu bi;refine bodyPost_ret (by simp[results,Tryz.results117,go_sem,c6,c7];try rfl) rfl ?_
    exact⟨by rw[HW.out]<;>rfl,((xk.setCell (p:=⟨w1,1,none⟩) (Nat.le_of_lt mg) _).setCell (by simp) _).setCell (by simp) _⟩)
 ·first
   |(
    guard_hyp N1
    have b1:(Bk (gI l k) big==0)=false:=by simpa using dk
    have ot:=A6 dk;clear dk)
   |(
    have b2:(Bk (gI l (Co l k big)) big==0)=false:=by simpa using hz
    have MG:Hid (¬(Co l k big<l.length∧(Bb l big k=0∨Bb l big (Co l k big)=0))):=A6 (fun h=>by
     rcases h.2 with h|h
     ·exact ot.out (by rw[←re.out];exact h)
     ·exact hz (by rw[←BD.out _ ae];exact h))
    clear hz)
  have VH:Hid (aG l k big=if Bb l big k≠0∧0<E8 l k big∧Bb l big (E8 l k big-1:Nat)=0 then(E8 l (E8 l k big-1) big,Co l k big)else(E8 l k big,Co l k big)):=A6 (by unfold aG;rw[if_neg MG.out])
  rcases Nat.eq_zero_or_pos (E8 l k big)with hF|hF
  ·have HW:Hid (aG l k big=(0,Co l k big)):=A6 (by rw[VH.out,if_neg (fun h=>by omega),hF])
   rw[hF]at c0 hr;have c0z:w2.cell? ⟨w1,0,none⟩=some (.int .i64 0):=c0;clear c0 hF;have c0:=c0z;clear c0z;have f0:=hq.frozen 0;have f1:=hq.frozen 1;have c4:=hq.cell 0;have c5:=hq.cell 1;simp only[List.getElem?_toArray,List.getElem?_cons_zero,List.getElem?_cons_succ]at c4 c5;go_wp2_with fail
   have bi:Aq ((w2.setCell ⟨w,0,none⟩ (0:Int)).setCell ⟨w,1,none⟩ (.int .i64 (Co l k big))) w.heap.size 196 #[.int .i64 0,.int .i64 (Co l k big)]:=by
    simpa using(hq.set_ 0 (.int .i64 0)).set_ 1 (.int .i64 (Co l k big))
   have c6:=bi.cell 0;have c7:=bi.cell 1;simp only[List.getElem?_toArray,List.getElem?_cons_zero,List.getElem?_cons_succ]at c6 c7;clear c4 c5 f0 f1 c0 c1 bi;refine bodyPost_ret (by simp[results,Tryz.results117,go_sem,c6,c7];try rfl) rfl ?_
   exact⟨by rw[HW.out]<;>rfl,(ix.setCell (by simp) _).setCell (by simp) _⟩
  ·obtain⟨g,hg⟩:∃g,E8 l k big=g+1:=⟨E8 l k big-1,by omega⟩
   have BE:g<n:=by omega
   have dG:=ix.cell (HC.out g BE);rw[hg]at c0 hr;have HG:=A6 hg;clear hg hF;go_wp2_with fail
   refine(Jf _ _ _).mono ?_
   rintro e w3 ⟨rfl,rfl⟩;by_cases hz:Bk (gI l g) big=0
   ·have b3:(Bk (gI l g) big==0)=true:=by simpa using hz
    have HW:Hid (aG l k big=(E8 l g big,Co l k big)):=A6 (by
     rw[VH.out,HG.out,Nat.add_sub_cancel,if_pos ⟨by rw[re.out];exact ot.out,by omega,by rw[BD.out g BE];exact hz⟩])
    clear hz;go_wp2_with fail
    refine(M5 (k:=g) (big:=big) MH hn BE).mono ?_
    rintro e w3 ⟨rfl,cu⟩;rw[show Hr l big (Bb l big (g:Nat)) g=E8 l g big from rfl,show Fi l big (Bb l big (g:Nat)) g=Co l g big from rfl]
    have jq:=hq.ext cu;have xj:=hr.ext cu;have xk:=ix.trans cu;have g0:=xj.frozen 0;have e0:=xj.cell 0;have e1:=xj.cell 1;have f0:=jq.frozen 0;have f1:=jq.frozen 1;have c4:=jq.cell 0;have c5:=jq.cell 1;simp only[List.getElem?_toArray,List.getElem?_cons_zero,List.getElem?_cons_succ]at c4 c5 e0 e1;clear c0 c1;have n1:¬w1.heap.size=w.heap.size:=by omega
    have n2:¬w.heap.size=w1.heap.size:=by omega
    have qu:=eJ (.int .i64 (E8 l g big)) (.int .i64 (Co l g big)) w3;go_wp2_with fail
    have bi:Aq (((w3.setCell ⟨w1,0,none⟩ (.int .i64 (E8 l g big))).setCell ⟨w,0,none⟩ (.int .i64 (E8 l g big))).setCell ⟨w,1,none⟩ (.int .i64 (Co l k big))) w.heap.size 196 #[.int .i64 (E8 l g big),.int .i64 (Co l k big)]:=by
     simpa using((jq.keepCell2 (p:=⟨w1,0,none⟩) n1 (.int .i64 (E8 l g big))).set_ 0 (.int .i64 (E8 l g big))).set_ 1 (.int .i64 (Co l k big))
    have c6:=bi.cell 0;have c7:=bi.cell 1;simp only[List.getElem?_toArray,List.getElem?_cons_zero,List.getElem?_cons_succ]at c6 c7;clear c4 c5 f0 f1 e0 e1 g0 qu bi;refine bodyPost_ret (by simp[results,Tryz.results117,go_sem,c6,c7];try rfl) rfl ?_
    exact⟨by rw[HW.out]<;>rfl,((xk.setCell (p:=⟨w1,0,none⟩) (Nat.le_of_lt mg) _).setCell (by simp) _).setCell (by simp) _⟩
   ·have b3:(Bk (gI l g) big==0)=false:=by simpa using hz
    have HW:Hid (aG l k big=(g+1,Co l k big)):=A6 (by
     rw[VH.out,HG.out,Nat.add_sub_cancel,if_neg (fun h=>hz (by rw[←BD.out g BE];exact h.2.2))])
    clear hz;have f0:=hq.frozen 0;have f1:=hq.frozen 1;have c4:=hq.cell 0;have c5:=hq.cell 1;simp only[List.getElem?_toArray,List.getElem?_cons_zero,List.getElem?_cons_succ]at c4 c5;go_wp2_with fail
    have bi:Aq ((w2.setCell ⟨w,0,none⟩ (.int .i64 ((g:Int)+1))).setCell ⟨w,1,none⟩ (.int .i64 (Co l k big))) w.heap.size 196 #[.int .i64 ((g:Int)+1),.int .i64 (Co l k big)]:=by
     simpa using(hq.set_ 0 (.int .i64 ((g:Int)+1))).set_ 1 (.int .i64 (Co l k big))
    have c6:=bi.cell 0;have c7:=bi.cell 1;simp only[List.getElem?_toArray,List.getElem?_cons_zero,List.getElem?_cons_succ]at c6 c7;clear c4 c5 f0 f1 c0 c1 bi;refine bodyPost_ret (by simp[results,Tryz.results117,go_sem,c6,c7];try rfl) rfl ?_
    exact⟨by rw[HW.out]<;>rfl,(ix.setCell (by simp) _).setCell (by simp) _⟩):p:=h
theorem K12 (h:p:=by
 subst hv
 first
  |(
   guard_hyp N1
   have RU:Hid (∀wy,An wd wy→Calls Tryz.prog 75 #[.slice A n c,.int .i64 (a:Int),.bool true,.int .i64 k5] wy fun e w'=>(∃x y er,qT l a true k5 x y er∧e=.returned (.tuple #[.int .i64 x,.int .i64 y,.int .i64 er]))∧An wy w'):=A6 fun wy he=>
    Zf (na.out.line.ext (na.out.ext.trans he)) na.out.nums (by have:=na.out.len;omega) (by have:=na.out.place;omega))
  |(
   have RU:Hid (∀wy,An wd wy→Calls Tryz.prog 75 #[.slice A n c,.int .i64 (a:Int),.bool false,.int .i64 k5] wy fun e w'=>(∃x y er,qT l a false k5 x y er∧e=.returned (.tuple #[.int .i64 x,.int .i64 y,.int .i64 er]))∧An wy w'):=A6 fun wy he=>
    Zf (na.out.line.ext (na.out.ext.trans he)) na.out.nums (by have:=na.out.len;omega) (by have:=na.out.place;omega))
 clear HIA;go_upto_region 32 with fail
 first
  |(
   guard_hyp N1
   refine wp_region_held_drew (S:=fun w'=>w'.cell? ⟨g,0,none⟩=some (.slice A n c)∧w'.cell? ⟨g,1,none⟩=some (.int .i64 (a:Int))∧w'.cell? ⟨g,32,none⟩=some (.int .i64 97)∧w'.cell? ⟨g,33,none⟩=some (.int .i64 k5)) (by kernel_rfl) ⟨c0,c1,c32,c33⟩ (fun aa=>?_))
  |(
   refine wp_region_held_drew (S:=fun w'=>w'.cell? ⟨g,0,none⟩=some (.slice A n c)∧w'.cell? ⟨g,1,none⟩=some (.int .i64 (a:Int))∧w'.cell? ⟨g,32,none⟩=some (.int .i64 105)∧w'.cell? ⟨g,33,none⟩=some (.int .i64 k5)) (by kernel_rfl) ⟨c0,c1,c32,c33⟩ (fun aa=>?_))
 refine Bv (i:=0) (v:=some g) rfl aa ?_
 refine Bv (i:=1) (v:=some g) rfl aa ?_
 refine Bv (i:=2) (v:=some g) rfl aa ?_
 refine Bv (i:=3) (v:=some g) rfl aa ?_
 refine Bv (i:=4) (v:=(.slice A n c)) rfl aa ?_
 refine Bv (i:=5) (v:=some g) rfl aa ?_
 refine Bv (i:=6) (v:=some g) rfl aa ?_
 refine Bv (i:=7) (v:=some g) rfl aa ?_
 refine Bv (i:=8) (v:=(.pointer (some ⟨g,1,none⟩))) rfl aa ?_
 refine Bv (i:=9) (v:=(.int .i64 (a:Int))) rfl aa ?_
 refine Bv (i:=10) (v:=some g) rfl aa ?_
 refine Bv (i:=11) (v:=some g) rfl aa ?_
 refine Bv (i:=12) (v:=(.pointer (some ⟨g,29,none⟩))) rfl aa ?_
 refine Bv (i:=13) (v:=(.pointer (some ⟨g,32,none⟩))) rfl aa ?_
 first
  |(
   guard_hyp N1
   refine Bv (i:=14) (v:=(97:Int)) rfl aa ?_
   refine Bv (i:=15) (v:=(.bool true)) rfl aa ?_)
  |(
   refine Bv (i:=14) (v:=(105:Int)) rfl aa ?_
   refine Bv (i:=15) (v:=(.bool false)) rfl aa ?_)
 refine Bv (i:=16) (v:=some g) rfl aa ?_
 refine Bv (i:=17) (v:=some g) rfl aa ?_
 refine Bv (i:=18) (v:=(.pointer (some ⟨g,29,none⟩))) rfl aa ?_
 refine Bv (i:=19) (v:=(.pointer (some ⟨g,33,none⟩))) rfl aa ?_
 refine Bv (i:=20) (v:=k5) rfl aa ?_
 refine wpAnyH_ready (rs:=[21]) (by kernel_rfl) (by simp) ?_
 refine AllReadyH.cons rfl (fun K hK=>?_) AllReadyH.nil
 first
  |(
   guard_hyp N1
   refine C8 rfl 75 #[.slice A n c,.int .i64 (a:Int),.bool true,.int .i64 k5] rfl (by kernel_rfl) (fun u w'=>∃x y er:Int,u=.tuple #[.int .i64 x,.int .i64 y,.int .i64 er]∧qT l a true k5 x y er∧An wd.drew w') ((RU.out _ (An.drew wd)).mono fun e w' ⟨⟨x,y,er,h1,h2⟩,h3⟩=>⟨_,h2,x,y,er,rfl,h1,h3⟩) ?_)
  |(
   refine C8 rfl 75 #[.slice A n c,.int .i64 (a:Int),.bool false,.int .i64 k5] rfl (by kernel_rfl) (fun u w'=>∃x y er:Int,u=.tuple #[.int .i64 x,.int .i64 y,.int .i64 er]∧qT l a false k5 x y er∧An wd.drew w') ((RU.out _ (An.drew wd)).mono fun e w' ⟨⟨x,y,er,h1,h2⟩,h3⟩=>⟨_,h2,x,y,er,rfl,h1,h3⟩) ?_)
 rintro u W1 ⟨x,y,er,rfl,hR,d8⟩;refine hK.out _ _ ⟨d8.cell c0,d8.cell c1,d8.cell c32,d8.cell c33⟩ (fun af=>?_)
 clear hK K aa
 try simp only[List.getElem_toArray,List.getElem_cons_zero,List.getElem_cons_succ,Act.put,List.setIfInBounds_toArray,List.set_cons_zero,List.set_cons_succ]
 refine Bv (i:=22) (v:=(.tuple #[.int .i64 x,.int .i64 y,.int .i64 er])) rfl af ?_
 refine Bv (i:=23) (v:=x) rfl af ?_
 refine Bv (i:=24) (v:=y) rfl af ?_
 refine Bv (i:=25) (v:=er) rfl af ?_
 refine Bv (i:=26) (v:=x) rfl af ?_
 refine Bv (i:=27) (v:=y) rfl af ?_
 refine Bv (i:=28) (v:=er) rfl af ?_
 refine wpAnyH_done (by kernel_rfl) ?_ _
 have MI:=A6 ((na.out.wext (An.drew wd)).wext d8);have JM:=A6 (Da QY.out (G0 ((An.drew wd).trans d8) (some g)));clear c0 c1 c31 c32 c33 af RU d8 na QY FH KY JA;by_cases ey:er=0
 first
  |(
   guard_hyp N1
   case neg=>
    have HF:Hid (Cv g w (P8 l n a rl k1 k2 o 97 k5 fk fa POk) (H8 g l n a rl k1 k2 o 97 k5 fk fa PPost) (.returned (.int .i64 er)) W1):=A6 ⟨er,cs',rfl,JM.out,fun h=>absurd ((h.2.2 HM.out HO.out).span HV.out rfl hR).1 ey,fun h=>absurd h ey⟩
    clear hR;go_wp2_with fail
    go_ret
    exact HF.out)
  |(
   case neg=>
    have HF:Hid (Cv g w (P8 l n a rl k1 k2 o 105 k5 fk fa POk) (H8 g l n a rl k1 k2 o 105 k5 fk fa PPost) (.returned (.int .i64 er)) W1):=A6 ⟨er,cs',rfl,JM.out,fun h=>absurd ((h.2.2 HM.out HO.out).span HV.out rfl hR).1 ey,fun h=>absurd h ey⟩
    clear hR;go_wp2_with fail
    go_ret
    exact HF.out)
 subst ey;obtain⟨f,t,rfl,rfl,gi,pj⟩:=J6d hR;rw[jh.out]at pj;have HR:=A6 hR;have JF:=A6 (And.intro gi pj);have AE:=A6 (Rm (f:=f) (t:=t) (whole:=false) MI.out gi pj FA.out);clear hR gi pj;go_wp2_with fail
 refine AE.out.mono ?_
 rintro e w3 hd
 first
  |(
   guard_hyp N1
   have HF:Hid (Cv g w (P8 l n a rl k1 k2 o 97 k5 fk fa POk) (H8 g l n a rl k1 k2 o 97 k5 fk fa PPost) e w3):=A6 (hd.from JM.out (fun h=>(h.2.2 HM.out HO.out).span' HV.out rfl HR.out) (fun cs h=>by
    obtain⟨m,at_,md,co,e',h1,h2⟩:=h;exact .inr (.inr ⟨HM.out,HO.out,f,t,false,m,at_,md,co,e',JF.out.1,JF.out.2,.inr ⟨HV.out,.inr rfl,rfl,HR.out⟩,h1,h2⟩))))
  |(
   have HF:Hid (Cv g w (P8 l n a rl k1 k2 o 105 k5 fk fa POk) (H8 g l n a rl k1 k2 o 105 k5 fk fa PPost) e w3):=A6 (hd.from JM.out (fun h=>(h.2.2 HM.out HO.out).span' HV.out rfl HR.out) (fun cs h=>by
    obtain⟨m,at_,md,co,e',h1,h2⟩:=h;exact .inr (.inr ⟨HM.out,HO.out,f,t,false,m,at_,md,co,e',JF.out.1,JF.out.2,.inr ⟨HV.out,.inl rfl,rfl,HR.out⟩,h1,h2⟩))))
 obtain⟨er2,cs3,rfl,_⟩:=hd;clear AE;go_wp2_with fail
 go_ret
 exact HF.out):p:=h
theorem K13 (h:p:=by
 first
  |(
   guard_hyp N1
   have hx:=An.alloc w (.cells #[k1,k2,(0:Int),(106:Int),k5] 62);have hc:=Aq.new w 62 #[.int .i64 k1,.int .i64 k2,.int .i64 0,.int .i64 106,.int .i64 k5])
  |(
   guard_hyp N2
   have hx:=An.alloc w (.cells #[k1,k2,(0:Int),(71:Int),k5] 62);have hc:=Aq.new w 62 #[.int .i64 k1,.int .i64 k2,.int .i64 0,.int .i64 71,.int .i64 k5])
  |(
   guard_hyp N3
   have hx:=An.alloc w (.cells #[k1,k2,(0:Int),(110:Int),k5] 62);have hc:=Aq.new w 62 #[.int .i64 k1,.int .i64 k2,.int .i64 0,.int .i64 110,.int .i64 k5])
  |(
   guard_hyp N4
   have hx:=An.alloc w (.cells #[k1,k2,(0:Int),(78:Int),k5] 62);have hc:=Aq.new w 62 #[.int .i64 k1,.int .i64 k2,.int .i64 0,.int .i64 78,.int .i64 k5])
  |(
   have hx:=An.alloc w (.cells #[k1,k2,(0:Int),(107:Int),k5] 62);have hc:=Aq.new w 62 #[.int .i64 k1,.int .i64 k2,.int .i64 0,.int .i64 107,.int .i64 k5])
 have HC:=A6 (Hc (h.ext hx).ses.dat.here.tr (by omega))
 have d0:=(h.ext hx).ses.blk.cell 0;have H:=A6 h;clear h;go_enter Tryz.func66,Tryz.ntmps66
 go_upto_region 1 with fail
 first
  |(
   guard_hyp N1
   generalize w.alloc (.cells #[k1,k2,(0:Int),(106:Int),k5] 62)=Wa at *)
  |(
   guard_hyp N2
   generalize w.alloc (.cells #[k1,k2,(0:Int),(71:Int),k5] 62)=Wa at *)
  |(
   guard_hyp N3
   generalize w.alloc (.cells #[k1,k2,(0:Int),(110:Int),k5] 62)=Wa at *)
  |(
   guard_hyp N4
   generalize w.alloc (.cells #[k1,k2,(0:Int),(78:Int),k5] 62)=Wa at *)
  |(
   generalize w.alloc (.cells #[k1,k2,(0:Int),(107:Int),k5] 62)=Wa at *)
 have MF:Wa.cell? ⟨p,0,none⟩=some (.pointer v.tr):=d0;clear d0;go_wp2_with fail
 refine HC.out.mono ?_
 rintro e w1 ⟨_,rfl,⟨A,k,rfl,hA⟩,he⟩;have ay:=hx.trans he;have bh:=hc.ext he;have g0:w1.cell? ⟨w,0,none⟩=some (.int .i64 k1):=bh.cell 0;have g2:w1.cell? ⟨w,2,none⟩=some (.int .i64 0):=bh.cell 2
 first
  |(
   guard_hyp N1
   have g3:w1.cell? ⟨w,3,none⟩=some (.int .i64 106):=bh.cell 3)
  |(
   guard_hyp N2
   have g3:w1.cell? ⟨w,3,none⟩=some (.int .i64 71):=bh.cell 3)
  |(
   guard_hyp N3
   have g3:w1.cell? ⟨w,3,none⟩=some (.int .i64 110):=bh.cell 3)
  |(
   guard_hyp N4
   have g3:w1.cell? ⟨w,3,none⟩=some (.int .i64 78):=bh.cell 3)
  |(
   have g3:w1.cell? ⟨w,3,none⟩=some (.int .i64 107):=bh.cell 3)
 clear hx hc MF he HC
 first
  |(
   guard_hyp N1
   go_upto_region 15 with fail
   have sr:Hid (∀wq,An w1 wq→Calls Tryz.prog 96 #[.agg (Ln v s.hi),.slice A s.tx.length k,.int .i64 k1] wq fun e w'=>∃u,e=.returned u∧(∃U L m z x,u=.tuple #[U,.slice L m z,.int .i64 x]∧
    Calls Tryz.prog 80 #[.pointer (some ⟨p,0,none⟩),U,.slice L m z,.int .i64 x] w' fun e' w''=>e'=.returned (.tuple #[])∧C6 p w col (Nc s k1) w'')):=A6 fun wq he=>by
    have hm:=H.out.ext (ay.trans he);refine(J0x hm.ses.dat.here.his.v ((Ba.ints hA).ext he) (Bd.nocap' hA)).mono ?_
    rintro e w' ⟨fw,hg⟩;obtain⟨U,L,m,z,x,rfl,hc⟩:=Nl hm fw hq (fun _=>ab) (hg.imp (fun⟨h1,u,L,m,z,h2,h3,h4,_⟩=>⟨h1,u,L,m,z,h2,h3,h4⟩) id)
    refine⟨_,rfl,U,L,m,z,x,rfl,hc.mono fun e w'' ⟨h1,h2⟩=>⟨h1,?_⟩⟩
    refine C6.trans ⟨(ay.trans he).alt _,fun _ _ h=>h,fun _ _ h=>h⟩ ?_
    unfold Nc;by_cases dn:Gh s.hi s.tx k1∧(Fv k1:Int)+s.hi.at_≤(s.hi.lines.length:Int)
    ·rw[if_pos dn]at h2 ⊢;exact h2
    ·rw[if_neg dn]at h2 ⊢;exact h2)
  |(
   guard_hyp N2
   go_upto_region 17 with fail
   have sr:Hid (∀wq,An w1 wq→Calls Tryz.prog 97 #[.agg (Ln v s.hi),.slice A s.tx.length k,.int .i64 k1] wq fun e w'=>∃u,e=.returned u∧(∃U L m z x,u=.tuple #[U,.slice L m z,.int .i64 x]∧
    Calls Tryz.prog 80 #[.pointer (some ⟨p,0,none⟩),U,.slice L m z,.int .i64 x] w' fun e' w''=>e'=.returned (.tuple #[])∧C6 p w col (Na s k1) w'')):=A6 fun wq he=>by
    have hm:=H.out.ext (ay.trans he);refine(J0b hm.ses.dat.here.his.v ((Ba.ints hA).ext he) (Bd.nocap' hA)).mono ?_
    rintro e w' ⟨fw,hg⟩;obtain⟨U,L,m,z,x,rfl,hc⟩:=Nl hm fw hq (fun _=>ab) (hg.imp (fun⟨h1,u,L,m,z,h2,h3,h4,_⟩=>⟨h1,u,L,m,z,h2,h3,h4⟩) id)
    refine⟨_,rfl,U,L,m,z,x,rfl,hc.mono fun e w'' ⟨h1,h2⟩=>⟨h1,?_⟩⟩
    refine C6.trans ⟨(ay.trans he).alt _,fun _ _ h=>h,fun _ _ h=>h⟩ ?_
    unfold Na;by_cases dn:Gh s.hi s.tx k1∧k1≤(s.hi.lines.length:Int)∧0<s.hi.lines.length
    ·rw[if_pos dn]at h2 ⊢;exact h2
    ·rw[if_neg dn]at h2 ⊢;exact h2)
  |(
   guard_hyp N3
   go_upto_region 20 with fail
   have sr:Hid (∀wq,An w1 wq→Calls Tryz.prog 98 #[.agg (Ln v s.hi),.slice A s.tx.length k,.bool false] wq fun e w'=>∃u,e=.returned u∧(∃U L m z x,u=.tuple #[U,.slice L m z,.int .i64 x]∧
    Calls Tryz.prog 80 #[.pointer (some ⟨p,0,none⟩),U,.slice L m z,.int .i64 x] w' fun e' w''=>e'=.returned (.tuple #[])∧C6 p w col (Fs s [] (s.hi.older !=false) s.hi.older) w'')):=A6 fun wq he=>by
    have hm:=H.out.ext (ay.trans he);refine(dZ hm.ses.dat.here.his.v ((Ba.ints hA).ext he) (Bd.nocap' hA)).mono ?_
    rintro e w' ⟨fw,hg⟩;obtain⟨U,L,m,z,x,rfl,hc⟩:=Rn hm fw hq ab (hg.imp (fun⟨k,h1,h2,u,L,m,z,h3,h4,h5,_⟩=>⟨k,h1,h2,u,L,m,z,h3,h4,h5⟩) id)
    exact⟨_,rfl,U,L,m,z,x,rfl,hc.mono fun e w'' ⟨h1,h2⟩=>⟨h1,C6.trans ⟨(ay.trans he).alt _,fun _ _ h=>h,fun _ _ h=>h⟩ h2⟩⟩)
  |(
   guard_hyp N4
   go_upto_region 20 with fail
   have sr:Hid (∀wq,An w1 wq→Calls Tryz.prog 98 #[.agg (Ln v s.hi),.slice A s.tx.length k,.bool true] wq fun e w'=>∃u,e=.returned u∧(∃U L m z x,u=.tuple #[U,.slice L m z,.int .i64 x]∧
    Calls Tryz.prog 80 #[.pointer (some ⟨p,0,none⟩),U,.slice L m z,.int .i64 x] w' fun e' w''=>e'=.returned (.tuple #[])∧C6 p w col (Fs s [] (s.hi.older !=true) s.hi.older) w'')):=A6 fun wq he=>by
    have hm:=H.out.ext (ay.trans he);refine(dZ hm.ses.dat.here.his.v ((Ba.ints hA).ext he) (Bd.nocap' hA)).mono ?_
    rintro e w' ⟨fw,hg⟩;obtain⟨U,L,m,z,x,rfl,hc⟩:=Rn hm fw hq ab (hg.imp (fun⟨k,h1,h2,u,L,m,z,h3,h4,h5,_⟩=>⟨k,h1,h2,u,L,m,z,h3,h4,h5⟩) id)
    exact⟨_,rfl,U,L,m,z,x,rfl,hc.mono fun e w'' ⟨h1,h2⟩=>⟨h1,C6.trans ⟨(ay.trans he).alt _,fun _ _ h=>h,fun _ _ h=>h⟩ h2⟩⟩)
  |(
   go_upto_region 13 with fail
   have sr:Hid (∀wq,An w1 wq→Calls Tryz.prog 95 #[.agg (Ln v s.hi),.slice A s.tx.length k,.int .i64 k1] wq fun e w'=>∃u,e=.returned u∧(∃U L m z x,u=.tuple #[U,.slice L m z,.int .i64 x]∧
    Calls Tryz.prog 80 #[.pointer (some ⟨p,0,none⟩),U,.slice L m z,.int .i64 x] w' fun e' w''=>e'=.returned (.tuple #[])∧C6 p w col (lV s k1) w'')):=A6 fun wq he=>by
    have hm:=H.out.ext (ay.trans he);refine(J5r hm.ses.dat.here.his.v ((Ba.ints hA).ext he) (Bd.nocap' hA)).mono ?_
    rintro e w' ⟨fw,hg⟩;obtain⟨U,L,m,z,x,rfl,hc⟩:=Nl hm fw hq (fun _=>ab) (hg.imp (fun⟨h1,u,L,m,z,h2,h3,h4,_⟩=>⟨h1,u,L,m,z,h2,h3,h4⟩) id)
    refine⟨_,rfl,U,L,m,z,x,rfl,hc.mono fun e w'' ⟨h1,h2⟩=>⟨h1,?_⟩⟩
    refine C6.trans ⟨(ay.trans he).alt _,fun _ _ h=>h,fun _ _ h=>h⟩ ?_
    unfold lV;by_cases dn:Gh s.hi s.tx k1∧(Fv k1:Int)≤s.hi.at_
    ·rw[if_pos dn]at h2 ⊢;exact h2
    ·rw[if_neg dn]at h2 ⊢;exact h2)
 have al:=H.out.ses.blk.ext (ay.to_drew)
 first
  |(
   guard_hyp N1
   have uh:Aq w1.drew w.heap.size 62 #[.int .i64 k1,.int .i64 k2,.int .i64 0,.int .i64 106,.int .i64 k5]:=bh)
  |(
   guard_hyp N2
   have uh:Aq w1.drew w.heap.size 62 #[.int .i64 k1,.int .i64 k2,.int .i64 0,.int .i64 71,.int .i64 k5]:=bh)
  |(
   guard_hyp N3
   have uh:Aq w1.drew w.heap.size 62 #[.int .i64 k1,.int .i64 k2,.int .i64 0,.int .i64 110,.int .i64 k5]:=bh)
  |(
   guard_hyp N4
   have uh:Aq w1.drew w.heap.size 62 #[.int .i64 k1,.int .i64 k2,.int .i64 0,.int .i64 78,.int .i64 k5]:=bh)
  |(
   have uh:Aq w1.drew w.heap.size 62 #[.int .i64 k1,.int .i64 k2,.int .i64 0,.int .i64 107,.int .i64 k5]:=bh)
 have lp:=An.drew w1;refine wp_region_held_drew (S:=fun _=>True) (by kernel_rfl) trivial (fun hS=>?_)
 clear ay bh g0 g2 g3;generalize w1.drew=cur at*;refine Bf (i:=0) (v:=some p) rfl hS ?_
 refine Bf (i:=1) (v:=some p) rfl hS ?_
 refine Bf (i:=2) (v:=some p) rfl hS ?_
 refine Bf (i:=3) (v:=(.pointer (some ⟨p,37,none⟩))) rfl hS ?_
 refine Bf (i:=5) (v:=(.slice A s.tx.length k)) rfl hS ?_
 first
  |(
   (first|guard_hyp N3|guard_hyp N4)
   refine Bf (i:=6) (v:=(.pointer (some ⟨w,3,none⟩))) rfl hS ?_
   have g3:=uh.cell 3)
  |(
   refine Bf (i:=6) (v:=some w.heap.size) rfl hS ?_
   have g0:cur.cell? ⟨w,0,none⟩=some (.int .i64 k1):=uh.cell 0)
 have d37:cur.cell? ⟨p,37,none⟩=some v.h0:=al.cell 37;have d38:cur.cell? ⟨p,38,none⟩=some (.int .i64 s.hi.most):=al.cell 38;have d39:cur.cell? ⟨p,39,none⟩=some (.int .i64 s.hi.at_):=al.cell 39;have d40:cur.cell? ⟨p,40,none⟩=some v.h3:=al.cell 40;have d41:cur.cell? ⟨p,41,none⟩=some v.h4:=al.cell 41;have d42:cur.cell? ⟨p,42,none⟩=some (.bool s.hi.older):=al.cell 42;refine wpAnyH_ready (rs:=[4,7]) (by decide +kernel) (by simp) (AllReadyH.cons rfl (fun K hK=>?_) (AllReadyH.cons rfl (fun K hK=>?_) AllReadyH.nil))
 ·go_simp
  refine hK.out _ _ trivial (fun _=>?_)
  clear hK K
  try simp only[List.getElem_toArray,List.getElem_cons_zero,List.getElem_cons_succ,Act.put,List.setIfInBounds_toArray,List.set_cons_zero,List.set_cons_succ]
  refine wpAnyH_ready (rs:=[7]) (by decide +kernel) (by simp) (AllReadyH.cons rfl (fun K hK=>?_) AllReadyH.nil)
  go_simp
  refine hK.out _ _ trivial (fun _=>?_)
  clear hK K
  try simp only[List.getElem_toArray,List.getElem_cons_zero,List.getElem_cons_succ,Act.put,List.setIfInBounds_toArray,List.set_cons_zero,List.set_cons_succ]
  first
   |(
    guard_hyp N1
    refine wpAnyH_ready (rs:=[8]) (by decide +kernel) (by simp) (AllReadyH.cons rfl (fun K hK=>?_) AllReadyH.nil)
    refine Ck rfl 96 #[.agg (Ln v s.hi),.slice A s.tx.length k,.int .i64 k1] rfl (by kernel_rfl) _ (sr.out cur lp) ?_)
   |(
    guard_hyp N2
    refine wpAnyH_ready (rs:=[8]) (by decide +kernel) (by simp) (AllReadyH.cons rfl (fun K hK=>?_) AllReadyH.nil)
    refine Ck rfl 97 #[.agg (Ln v s.hi),.slice A s.tx.length k,.int .i64 k1] rfl (by kernel_rfl) _ (sr.out cur lp) ?_)
   |(
    guard_hyp N3
    refine Bf (i:=8) (v:=(.bool false)) rfl hS ?_
    refine wpAnyH_ready (rs:=[9]) (by decide +kernel) (by simp) (AllReadyH.cons rfl (fun K hK=>?_) AllReadyH.nil)
    refine Ck rfl 98 #[.agg (Ln v s.hi),.slice A s.tx.length k,.bool false] rfl (by kernel_rfl) _ (sr.out cur lp) ?_)
   |(
    guard_hyp N4
    refine Bf (i:=8) (v:=(.bool true)) rfl hS ?_
    refine wpAnyH_ready (rs:=[9]) (by decide +kernel) (by simp) (AllReadyH.cons rfl (fun K hK=>?_) AllReadyH.nil)
    refine Ck rfl 98 #[.agg (Ln v s.hi),.slice A s.tx.length k,.bool true] rfl (by kernel_rfl) _ (sr.out cur lp) ?_)
   |(
    refine wpAnyH_ready (rs:=[8]) (by decide +kernel) (by simp) (AllReadyH.cons rfl (fun K hK=>?_) AllReadyH.nil)
    refine Kp rfl 95 #[.agg (Ln v s.hi),.slice A s.tx.length k,.int .i64 k1] rfl (by kernel_rfl) _ (sr.out cur lp) ?_)
  rintro u w2 ⟨U,L,m,z,x,rfl,lq⟩;refine hK.out _ _ trivial (fun _=>?_)
  clear hK K
  try simp only[List.getElem_toArray,List.getElem_cons_zero,List.getElem_cons_succ,Act.put,List.setIfInBounds_toArray,List.set_cons_zero,List.set_cons_succ]
  first
   |(
    guard_hyp N1
    refine Bf (i:=9) (v:=U) rfl hS ?_
    refine Bf (i:=10) (v:=(.slice L m z)) rfl hS ?_
    refine Bf (i:=11) (v:=x) rfl hS ?_
    refine wpAnyH_ready (rs:=[12]) (by decide +kernel) (by simp) (AllReadyH.cons rfl (fun K hK=>?_) AllReadyH.nil)
    refine Ck rfl 80 #[.pointer (some ⟨p,0,none⟩),U,.slice L m z,.int .i64 x] rfl (by kernel_rfl) (fun u w'=>u=.tuple #[]∧C6 p w col (Nc s k1) w') (lq.mono fun e w' ⟨h1,h2⟩=>⟨_,h1,rfl,h2⟩) ?_)
   |(
    guard_hyp N2
    refine Bf (i:=9) (v:=U) rfl hS ?_
    refine Bf (i:=10) (v:=(.slice L m z)) rfl hS ?_
    refine Bf (i:=11) (v:=x) rfl hS ?_
    refine wpAnyH_ready (rs:=[12]) (by decide +kernel) (by simp) (AllReadyH.cons rfl (fun K hK=>?_) AllReadyH.nil)
    refine Ck rfl 80 #[.pointer (some ⟨p,0,none⟩),U,.slice L m z,.int .i64 x] rfl (by kernel_rfl) (fun u w'=>u=.tuple #[]∧C6 p w col (Na s k1) w') (lq.mono fun e w' ⟨h1,h2⟩=>⟨_,h1,rfl,h2⟩) ?_)
   |(
    guard_hyp N3
    refine Bf (i:=10) (v:=U) rfl hS ?_
    refine Bf (i:=11) (v:=(.slice L m z)) rfl hS ?_
    refine Bf (i:=12) (v:=x) rfl hS ?_
    refine wpAnyH_ready (rs:=[13]) (by decide +kernel) (by simp) (AllReadyH.cons rfl (fun K hK=>?_) AllReadyH.nil)
    refine Ck rfl 80 #[.pointer (some ⟨p,0,none⟩),U,.slice L m z,.int .i64 x] rfl (by kernel_rfl) (fun u w'=>u=.tuple #[]∧C6 p w col (Fs s [] (s.hi.older !=false) s.hi.older) w') (lq.mono fun e w' ⟨h1,h2⟩=>⟨_,h1,rfl,h2⟩) ?_)
   |(
    guard_hyp N4
    refine Bf (i:=10) (v:=U) rfl hS ?_
    refine Bf (i:=11) (v:=(.slice L m z)) rfl hS ?_
    refine Bf (i:=12) (v:=x) rfl hS ?_
    refine wpAnyH_ready (rs:=[13]) (by decide +kernel) (by simp) (AllReadyH.cons rfl (fun K hK=>?_) AllReadyH.nil)
    refine Ck rfl 80 #[.pointer (some ⟨p,0,none⟩),U,.slice L m z,.int .i64 x] rfl (by kernel_rfl) (fun u w'=>u=.tuple #[]∧C6 p w col (Fs s [] (s.hi.older !=true) s.hi.older) w') (lq.mono fun e w' ⟨h1,h2⟩=>⟨_,h1,rfl,h2⟩) ?_)
   |(
    refine Bf (i:=9) (v:=U) rfl hS ?_
    refine Bf (i:=10) (v:=(.slice L m z)) rfl hS ?_
    refine Bf (i:=11) (v:=x) rfl hS ?_
    refine wpAnyH_ready (rs:=[12]) (by decide +kernel) (by simp) (AllReadyH.cons rfl (fun K hK=>?_) AllReadyH.nil)
    refine Kp rfl 80 #[.pointer (some ⟨p,0,none⟩),U,.slice L m z,.int .i64 x] rfl (by kernel_rfl) (fun u w'=>u=.tuple #[]∧C6 p w col (lV s k1) w') (lq.mono fun e w' ⟨h1,h2⟩=>⟨_,h1,rfl,h2⟩) ?_)
  rintro u w3 ⟨rfl,cn⟩;have ic:=A6 cn;clear cn lq;refine hK.out _ _ trivial (fun _=>?_)
  clear hK K;refine wpAnyH_done (by kernel_rfl) ?_ _
  go_wp2_with fail
  go_end0
  exact⟨rfl,ic.out⟩
 ·go_simp
  refine hK.out _ _ trivial (fun _=>?_)
  clear hK K
  try simp only[List.getElem_toArray,List.getElem_cons_zero,List.getElem_cons_succ,Act.put,List.setIfInBounds_toArray,List.set_cons_zero,List.set_cons_succ]
  first
   |(
    guard_hyp N3
    refine Bf (i:=8) (v:=(.bool false)) rfl hS ?_)
   |(
    guard_hyp N4
    refine Bf (i:=8) (v:=(.bool true)) rfl hS ?_)
   |skip
  refine wpAnyH_ready (rs:=[4]) (by decide +kernel) (by simp) (AllReadyH.cons rfl (fun K hK=>?_) AllReadyH.nil)
  go_simp
  refine hK.out _ _ trivial (fun _=>?_)
  clear hK K
  try simp only[List.getElem_toArray,List.getElem_cons_zero,List.getElem_cons_succ,Act.put,List.setIfInBounds_toArray,List.set_cons_zero,List.set_cons_succ]
  first
   |(
    guard_hyp N1
    refine wpAnyH_ready (rs:=[8]) (by decide +kernel) (by simp) (AllReadyH.cons rfl (fun K hK=>?_) AllReadyH.nil)
    refine Ck rfl 96 #[.agg (Ln v s.hi),.slice A s.tx.length k,.int .i64 k1] rfl (by kernel_rfl) _ (sr.out cur lp) ?_)
   |(
    guard_hyp N2
    refine wpAnyH_ready (rs:=[8]) (by decide +kernel) (by simp) (AllReadyH.cons rfl (fun K hK=>?_) AllReadyH.nil)
    refine Ck rfl 97 #[.agg (Ln v s.hi),.slice A s.tx.length k,.int .i64 k1] rfl (by kernel_rfl) _ (sr.out cur lp) ?_)
   |(
    guard_hyp N3
    refine wpAnyH_ready (rs:=[9]) (by decide +kernel) (by simp) (AllReadyH.cons rfl (fun K hK=>?_) AllReadyH.nil)
    refine Ck rfl 98 #[.agg (Ln v s.hi),.slice A s.tx.length k,.bool false] rfl (by kernel_rfl) _ (sr.out cur lp) ?_)
   |(
    guard_hyp N4
    refine wpAnyH_ready (rs:=[9]) (by decide +kernel) (by simp) (AllReadyH.cons rfl (fun K hK=>?_) AllReadyH.nil)
    refine Ck rfl 98 #[.agg (Ln v s.hi),.slice A s.tx.length k,.bool true] rfl (by kernel_rfl) _ (sr.out cur lp) ?_)
   |(
    refine wpAnyH_ready (rs:=[8]) (by decide +kernel) (by simp) (AllReadyH.cons rfl (fun K hK=>?_) AllReadyH.nil)
    refine Kp rfl 95 #[.agg (Ln v s.hi),.slice A s.tx.length k,.int .i64 k1] rfl (by kernel_rfl) _ (sr.out cur lp) ?_)
  rintro u w2 ⟨U,L,m,z,x,rfl,lq⟩;refine hK.out _ _ trivial (fun _=>?_)
  clear hK K
  try simp only[List.getElem_toArray,List.getElem_cons_zero,List.getElem_cons_succ,Act.put,List.setIfInBounds_toArray,List.set_cons_zero,List.set_cons_succ]
  first
   |(
    guard_hyp N1
    refine Bf (i:=9) (v:=U) rfl hS ?_
    refine Bf (i:=10) (v:=(.slice L m z)) rfl hS ?_
    refine Bf (i:=11) (v:=x) rfl hS ?_
    refine wpAnyH_ready (rs:=[12]) (by decide +kernel) (by simp) (AllReadyH.cons rfl (fun K hK=>?_) AllReadyH.nil)
    refine Ck rfl 80 #[.pointer (some ⟨p,0,none⟩),U,.slice L m z,.int .i64 x] rfl (by kernel_rfl) (fun u w'=>u=.tuple #[]∧C6 p w col (Nc s k1) w') (lq.mono fun e w' ⟨h1,h2⟩=>⟨_,h1,rfl,h2⟩) ?_)
   |(
    guard_hyp N2
    refine Bf (i:=9) (v:=U) rfl hS ?_
    refine Bf (i:=10) (v:=(.slice L m z)) rfl hS ?_
    refine Bf (i:=11) (v:=x) rfl hS ?_
    refine wpAnyH_ready (rs:=[12]) (by decide +kernel) (by simp) (AllReadyH.cons rfl (fun K hK=>?_) AllReadyH.nil)
    refine Ck rfl 80 #[.pointer (some ⟨p,0,none⟩),U,.slice L m z,.int .i64 x] rfl (by kernel_rfl) (fun u w'=>u=.tuple #[]∧C6 p w col (Na s k1) w') (lq.mono fun e w' ⟨h1,h2⟩=>⟨_,h1,rfl,h2⟩) ?_)
   |(
    guard_hyp N3
    refine Bf (i:=10) (v:=U) rfl hS ?_
    refine Bf (i:=11) (v:=(.slice L m z)) rfl hS ?_
    refine Bf (i:=12) (v:=x) rfl hS ?_
    refine wpAnyH_ready (rs:=[13]) (by decide +kernel) (by simp) (AllReadyH.cons rfl (fun K hK=>?_) AllReadyH.nil)
    refine Ck rfl 80 #[.pointer (some ⟨p,0,none⟩),U,.slice L m z,.int .i64 x] rfl (by kernel_rfl) (fun u w'=>u=.tuple #[]∧C6 p w col (Fs s [] (s.hi.older !=false) s.hi.older) w') (lq.mono fun e w' ⟨h1,h2⟩=>⟨_,h1,rfl,h2⟩) ?_)
   |(
    guard_hyp N4
    refine Bf (i:=10) (v:=U) rfl hS ?_
    refine Bf (i:=11) (v:=(.slice L m z)) rfl hS ?_
    refine Bf (i:=12) (v:=x) rfl hS ?_
    refine wpAnyH_ready (rs:=[13]) (by decide +kernel) (by simp) (AllReadyH.cons rfl (fun K hK=>?_) AllReadyH.nil)
    refine Ck rfl 80 #[.pointer (some ⟨p,0,none⟩),U,.slice L m z,.int .i64 x] rfl (by kernel_rfl) (fun u w'=>u=.tuple #[]∧C6 p w col (Fs s [] (s.hi.older !=true) s.hi.older) w') (lq.mono fun e w' ⟨h1,h2⟩=>⟨_,h1,rfl,h2⟩) ?_)
   |(
    refine Bf (i:=9) (v:=U) rfl hS ?_
    refine Bf (i:=10) (v:=(.slice L m z)) rfl hS ?_
    refine Bf (i:=11) (v:=x) rfl hS ?_
    refine wpAnyH_ready (rs:=[12]) (by decide +kernel) (by simp) (AllReadyH.cons rfl (fun K hK=>?_) AllReadyH.nil)
    refine Kp rfl 80 #[.pointer (some ⟨p,0,none⟩),U,.slice L m z,.int .i64 x] rfl (by kernel_rfl) (fun u w'=>u=.tuple #[]∧C6 p w col (lV s k1) w') (lq.mono fun e w' ⟨h1,h2⟩=>⟨_,h1,rfl,h2⟩) ?_)
  rintro u w3 ⟨rfl,cn⟩;have ic:=A6 cn;clear cn lq;refine hK.out _ _ trivial (fun _=>?_)
  clear hK K;refine wpAnyH_done (by kernel_rfl) ?_ _
  go_wp2_with fail
  go_end0
  exact⟨rfl,ic.out⟩):p:=h
theorem K14 (h:p:=by
 have aw:=hl.ncap;have aq:=hl.nmax;have ab:=A6 hl.len;unfold maxLen at aq;have HP:=A6 (Xi (hl.ext (An.alloc w (.cells #[(0:Int),(0:Int)] 196))) wl hn);clear wl;go_enter Tryz.func118,Tryz.ntmps118
 go_wp2_with fail
 refine HP.out.mono ?_
 rintro e w1 ⟨B,rfl,hB,aj⟩;have a9:=(Aq.new w 196 #[.int .i64 0,.int .i64 0]).ext aj;have he:=(An.alloc w (.cells #[(0:Int),(0:Int)] 196)).trans aj;have gq:=hl.ext he;clear HP aj hl;have HF:Hid (∀q:Nat,q<n→(k:Int)≤gI (Dq l) q→∃b:Nat,gI (Dq l) q=b∧b<l.length):=A6 (fun q hq h=>by
  rcases Q8 (l:=l) (i:=q) (by rw[ab.out];exact hq)with h1|⟨b,h1,h2,_⟩
  ·omega
  ·exact⟨b,h1,h2⟩)
 rcases Nat.eq_zero_or_pos n with jx|jx
 ·subst jx
  obtain rfl:k=0:=by omega
  go_wp2_with fail
  go_loopw [12] (fun i wr=>∃m:Nat,m≤0∧i=.int .i64 ((m:Int)-1)∧wr=w1) (fun i _=>(intOf i+1).toNat)
  case atStart=>
   exact⟨0,by omega,by rfl,rfl⟩
  case round=>
   obtain⟨m,dm,rfl,rfl⟩:=hrel;obtain rfl:m=0:=by omega
   have f0:=a9.frozen 0;have f1:=a9.frozen 1;have c4:=a9.cell 0;have c5:=a9.cell 1;simp only[List.getElem?_toArray,List.getElem?_cons_zero,List.getElem?_cons_succ]at c4 c5;go_wp2_with fail
   have bi:Aq ((wr.setCell ⟨w,0,none⟩ (0:Int)).setCell ⟨w,1,none⟩ (0:Int)) w.heap.size 196 #[.int .i64 0,.int .i64 0]:=by
    exact I154
   have c6:=bi.cell 0;have c7:=bi.cell 1;simp only[List.getElem?_toArray,List.getElem?_cons_zero,List.getElem?_cons_succ]at c6 c7;clear c4 c5 f0 f1;refine bodyPost_ret (by simp[results,Tryz.results118,go_sem,c6,c7];try rfl) rfl ?_
   exact⟨.inr ⟨fun j h1 h2=>absurd h2 (by rw[ab.out];omega),rfl⟩,(he.setCell (by simp) _).setCell (by simp) _⟩
 first
  |(
   guard_hyp N1
   ·have jc:(k:Int)≤n-1:=by omega
    go_wp2_with fail
    go_loopw [12] (fun i wr=>∃m:Nat,m≤k+1∧m≤n∧i=.int .i64 ((m:Int)-1)∧Hid (∀j,m≤j→j≤k→j<l.length→gI l j=o→gI (Dq l) j<k)∧wr=w1) (fun i _=>(intOf i+1).toNat)
    case atStart=>
     exact I104
    case round=>
     obtain⟨m,dm,ej,rfl,ax,rfl⟩:=hrel;rcases Nat.eq_zero_or_pos m with h0|h0
     ·exact I10
     ·obtain⟨q,rfl⟩:∃q,m=q+1:=⟨m-1,by omega⟩
      rw[show(((q+1:Nat):Int)-1)=(q:Int)by omega]
      have hq:q<n:=by omega
      obtain⟨a1,rfl,bh⟩:=gq.at_ hq;obtain⟨a2,rfl,fo⟩:=hB.at_ hq;have d1:=bh q hq;have d2:=fo q hq;clear bh fo;have RL:Hid ((gI l q=o→gI (Dq l) q<k)→∀j,q≤j→j≤k→j<l.length→gI l j=o→gI (Dq l) j<k):=A6 (fun hh j h1 h2 h3 h4=>by
       rcases Nat.lt_or_ge q j with h5|h5
       ·exact ax.out j (by omega) h2 h3 h4
       ·obtain rfl:j=q:=by omega
        exact hh h4)
      by_cases heq:gI l q=o
      ·have b1:(gI l q==o)=true:=by simpa using heq
       have HQ:=A6 heq;clear heq;by_cases ku:(k:Int)≤gI (Dq l) q
       ·obtain⟨b,al,ak⟩:=HF.out q hq ku
        have HB:=A6 al;rw[al]at d2 ku;clear al;have f0:=a9.frozen 0;have f1:=a9.frozen 1;have c4:=a9.cell 0;have c5:=a9.cell 1;simp only[List.getElem?_toArray,List.getElem?_cons_zero,List.getElem?_cons_succ]at c4 c5;go_wp2_with fail
        have bi:Aq ((wr.setCell ⟨w,0,none⟩ (.int .i64 ((q:Int)+1))).setCell ⟨w,1,none⟩ b) w.heap.size 196 #[.int .i64 ((q:Int)+1),.int .i64 b]:=by
         simpa using(a9.set_ 0 (.int .i64 ((q:Int)+1))).set_ 1 (.int .i64 b)
        exact I16
       ·exact I48
      ·have b1:(gI l q==o)=false:=by simpa using heq
       have HQ:=A6 heq;clear heq;go_wp2_with fail
       exact⟨⟨q,by omega,by omega,by go_num,RL.out (fun h=>absurd h HQ.out),trivial⟩,by simp[intOf]<;>omega⟩)
  |(
   ·have jc:(k:Int)≤n-1:=by omega
    go_wp2_with fail
    go_loopw [12] (fun i wr=>∃m:Nat,m≤k+1∧m≤n∧i=.int .i64 ((m:Int)-1)∧Hid (∀j,m≤j→j≤k→j<l.length→gI l j=o→gI (Dq l) j<k)∧wr=w1) (fun i _=>(intOf i+1).toNat)
    case atStart=>
     exact I104
    case round=>
     obtain⟨m,dm,ej,rfl,ax,rfl⟩:=hrel;rcases Nat.eq_zero_or_pos m with h0|h0
     ·exact I10
     ·obtain⟨q,rfl⟩:∃q,m=q+1:=⟨m-1,by omega⟩
      rw[show(((q+1:Nat):Int)-1)=(q:Int)by omega]
      have hq:q<n:=by omega
      obtain⟨a1,rfl,bh⟩:=gq.at_ hq;obtain⟨a2,rfl,fo⟩:=hB.at_ hq;have d1:=bh q hq;have d2:=fo q hq;clear bh fo;have RL:Hid ((gI l q=o→gI (Dq l) q<k)→∀j,q≤j→j≤k→j<l.length→gI l j=o→gI (Dq l) j<k):=A6 (fun hh j h1 h2 h3 h4=>by
       rcases Nat.lt_or_ge q j with h5|h5
       ·exact ax.out j (by omega) h2 h3 h4
       ·obtain rfl:j=q:=by omega
        exact hh h4)
      by_cases heq:gI l q=o
      ·have b1:(gI l q==o)=true:=by simpa using heq
       have HQ:=A6 heq;clear heq;by_cases ku:(k:Int)≤gI (Dq l) q
       ·obtain⟨b,al,ak⟩:=HF.out q hq ku
        have HB:=A6 al;have hbn:b<n:=by rw[←ab.out];exact ak
        rw[al]at d2 ku;clear al;have f0:=a9.frozen 0;have f1:=a9.frozen 1;have c4:=a9.cell 0;have c5:=a9.cell 1;simp only[List.getElem?_toArray,List.getElem?_cons_zero,List.getElem?_cons_succ]at c4 c5;go_wp2_with fail
        have bi:Aq ((wr.setCell ⟨w,0,none⟩ (.int .i64 (q:Int))).setCell ⟨w,1,none⟩ (.int .i64 ((b:Int)+1))) w.heap.size 196 #[.int .i64 q,.int .i64 ((b:Int)+1)]:=by
         simpa using(a9.set_ 0 (.int .i64 (q:Int))).set_ 1 (.int .i64 ((b:Int)+1))
        exact I16
       ·exact I48
      ·have b1:(gI l q==o)=false:=by simpa using heq
       have HQ:=A6 heq;clear heq;go_wp2_with fail
       exact⟨⟨q,by omega,by omega,by go_num,RL.out (fun h=>absurd h HQ.out),trivial⟩,by simp[intOf]<;>omega⟩)):p:=h
theorem xQ (h:p:=by
 obtain⟨h0,h1,fc,qg,mh,pv,df,lh⟩:=h.cells;have hb:=h.blk;have X0:Hid (∀wx,An w wx→wx.cell? ⟨g,0,none⟩=some (.slice A n c)):=A6 fun wx he=>he.cell ((hb.cell 0).trans h0)
 have X1:Hid (∀wx,An w wx→wx.cell? ⟨g,1,none⟩=some (.int .i64 (a:Int))):=A6 fun wx he=>he.cell ((hb.cell 1).trans h1)
 have Y0:Hid (∀wx,An w wx→wx.cell? ⟨g,29,none⟩=some (.int .i64 k1)):=A6 fun wx he=>he.cell ((hb.cell 29).trans qg)
 first
  |(
   guard_hyp N1
   have Y3:Hid (∀wx,An w wx→wx.cell? ⟨g,32,none⟩=some (.int .i64 80)):=A6 fun wx he=>he.cell ((hb.cell 32).trans df))
  |(
   guard_hyp N2
   have Y3:Hid (∀wx,An w wx→wx.cell? ⟨g,32,none⟩=some (.int .i64 126)):=A6 fun wx he=>he.cell ((hb.cell 32).trans df))
  |(
   guard_hyp N3
   have Y3:Hid (∀wx,An w wx→wx.cell? ⟨g,32,none⟩=some (.int .i64 114)):=A6 fun wx he=>he.cell ((hb.cell 32).trans df))
  |(
   guard_hyp N4
   have Y3:Hid (∀wx,An w wx→wx.cell? ⟨g,32,none⟩=some (.int .i64 105)):=A6 fun wx he=>he.cell ((hb.cell 32).trans df))
  |(
   guard_hyp N5
   have Y3:Hid (∀wx,An w wx→wx.cell? ⟨g,32,none⟩=some (.int .i64 82)):=A6 fun wx he=>he.cell ((hb.cell 32).trans df))
  |(
   guard_hyp N6
   have Y3:Hid (∀wx,An w wx→wx.cell? ⟨g,32,none⟩=some (.int .i64 65)):=A6 fun wx he=>he.cell ((hb.cell 32).trans df))
  |(
   guard_hyp N7
   have Y3:Hid (∀wx,An w wx→wx.cell? ⟨g,32,none⟩=some (.int .i64 97)):=A6 fun wx he=>he.cell ((hb.cell 32).trans df))
  |(
   guard_hyp N8
   have Y3:Hid (∀wx,An w wx→wx.cell? ⟨g,32,none⟩=some (.int .i64 73)):=A6 fun wx he=>he.cell ((hb.cell 32).trans df))
  |(
   guard_hyp N9
   have Y3:Hid (∀wx,An w wx→wx.cell? ⟨g,32,none⟩=some (.int .i64 k4)):=A6 fun wx he=>he.cell ((hb.cell 32).trans df))
  |(
   have Y3:Hid (∀wx,An w wx→wx.cell? ⟨g,32,none⟩=some (.int .i64 112)):=A6 fun wx he=>he.cell ((hb.cell 32).trans df))
 have zr:=A6 h0;have jt:=A6 h1;have VI:=A6 lh;have HI:=A6 h;have rz:=hb.lt;have hn:=h.len;have ha:=h.place;have hk:=h.cnt.1;have fx:=h.cnt.2;obtain⟨N,hN⟩:∃N:Nat,Mo k1=N:=⟨_,rfl⟩;have sd:max 1 k1=(N:Int):=by unfold Mo at hN;omega
 have TT:1≤N:=by unfold Mo at hN;omega
 have mS:N≤999:=by unfold Mo at hN;omega
 have HN:=A6 hN;clear h h0 h1 fc qg mh pv df lh hb hN
 first
  |(
   guard_hyp N9
   have q1:(k4==112)=false:=by simp;omega
   have q2:(k4==80)=false:=by simp;omega
   have q3:(k4==126)=false:=by simp;omega
   have q4:(k4==114)=false:=by simp;omega
   have q5:(k4==105)=false:=by simp;omega
   have q6:(k4==73)=false:=by simp;omega
   have q7:(k4==97)=false:=by simp;omega
   have q8:(k4==65)=false:=by simp;omega
   have q9:(k4==82)=false:=by simp;omega
   have ns:=A6 du;clear du)
  |skip
 have ay:=A6 (An.alloc w (.cells #[some g] 116));have al:=A6 (Aq.new w 116 #[.pointer (some ⟨g,0,none⟩)]);go_enter Tryz.func73,Tryz.ntmps73
 go_upto_region 1 with fail
 change Code.wp _ _ _ _ (w.alloc (.cells #[some g] 116));generalize w.alloc (.cells #[some g] 116)=w1 at*;have z0:w1.cell? ⟨w,0,none⟩=some (.pointer (some ⟨g,0,none⟩)):=al.out.cell 0;have x0:=X0.out w1 ay.out;have x1:=X1.out w1 ay.out;have y0:=Y0.out w1 ay.out;have y3:=Y3.out w1 ay.out;go_quiet (fail)
 have zt:=A6 (ay.out.trans (An.drewN w1 nq));have DH:=A6 (Aq.drewN al.out nq);clear x0 x1 y0 y3 z0 ay al;generalize w1.drewN nq=w2 at*;have z0:w2.cell? ⟨w,0,none⟩=some (.pointer (some ⟨g,0,none⟩)):=DH.out.cell 0;have x1:=X1.out w2 zt.out;have y3:=Y3.out w2 zt.out;have eu:=A6 (HI.out.mid.ext zt.out)
 first
  |(
   guard_hyp N1
   have VJ:a≤n:=by omega
   have HP:=A6 (cW (p:=a) (HI.out.wext (zt.out.trans (An.drew w2))) VJ);go_upto_region 7 with fail
   go_region_law (first
    |(
     refine C8 rfl 110 #[.pointer (some ⟨g,0,none⟩),.int .i64 (a:Int)] rfl (by kernel_rfl) (fun v w'=>∃er,v=.int .i64 er∧Hid (Cv g w2.drew (Qg n rl k1 k2) (Ua g l n a rl k1 k2 fk fa) (.returned (.int .i64 er)) w')) (HP.out.mono fun e w' h=>by obtain⟨er,cs',h1,h2⟩:=h;exact⟨_,h1,er,rfl,A6 ⟨er,cs',rfl,h2⟩⟩) ?_
     rintro v w3 ⟨er,rfl,hD⟩))
   all_goals
    have HF:Hid (Cv g w (F3 n a rl k1 k2 80) (Eg g l n a rl k1 k2 80 k5 fk fa) (.returned (.int .i64 er)) w3):=A6 (hD.out.from (G0 (zt.out.trans (An.drew w2)) (some g)) (fun h=>h.1 (.inr rfl)) (fun cs' ⟨m,at_,e,h1,h2⟩=>⟨m,at_,0,e,h1,.inr (.inl ⟨rfl,h2,rfl⟩)⟩))
    clear hD HP z0 x1 y3;go_wp2_with fail
    go_ret
    exact HF.out)
  |(
   guard_hyp N2
   by_cases jx:n=0
   ·subst jx
    go_wp2_with fail
    go_ret
    exact eu.out.fail (by decide) (fun h=>h.2.1 rfl rfl)
   have vt:((n:Int)==0)=false:=by simp;omega
   obtain⟨k,re⟩:∃k:Nat,min N (n-a)=k:=⟨_,rfl⟩;have vc:min (N:Int) ((n:Int)-(a:Int))=(k:Int):=by omega
   have lg:IntKind.i64.wrap ((n:Int)-(a:Int))=(n:Int)-(a:Int):=IntWalk.i64_in _ (by omega)
   have VK:a+k≤n:=by omega
   have HK:=A6 re;clear re;have DJ:=A6 (pU (k:=k) eu.out.blk zr.out jt.out (HI.out.mid.out.text.choose_spec.choose_spec.choose_spec.1) (HI.out.mid.out.edit.choose_spec.1) (HI.out.line.ext (HI.out.ext.trans zt.out)) hn VK);go_wp2_with fail
   refine DJ.out.mono ?_
   rintro e w3 ⟨⟨u,rfl⟩,ek⟩;have zz:w3.cell? ⟨w,0,none⟩=some (.pointer (some ⟨g,0,none⟩)):=(Aq.grown DH.out ek.1 (fun e=>by injection e with e;omega)).cell 0
   obtain⟨cs3,e3,dt,f6⟩:=eu.out.put ek;have C1:w3.cell? ⟨g,1,none⟩=some (.int .i64 (a:Int)):=dt.cell (by omega) jt.out
   have c35:=dt.oat;have f35:=dt.blk.frozen 35;have vh:=A6 f6;have fe:=A6 dt;have GH:IntKind.i64.wrap ((a:Int)+(k:Int))=(a:Int)+(k:Int):=IntWalk.i64_in _ (by omega)
   clear ek dt f6 DJ x1 y3 z0;have lj:=A6 ((fe.out.setAt (max 0 (min ((a:Int)+(k:Int)) ((n:Int)-1)))).ext (An.drew _));have ww:=A6 (Wz ((a:Int)+(k:Int)) (n:Int) w3.drew (by omega) (by omega))
   clear sd vc lg vt;go_upto_region 13 with fail
   go_region_law (first
    |(
     refine C8 rfl 113 #[.int .i64 ((a:Int)+(k:Int)),.int .i64 (n:Int)] rfl (by kernel_rfl) (fun v w'=>v=.int .i64 (max 0 (min ((a:Int)+(k:Int)) ((n:Int)-1)))∧w3.drew=w') (ww.out.mono fun e w' ⟨h1,h2⟩=>⟨_,h1,rfl,h2⟩) ?_
     rintro v w4 ⟨rfl,rfl⟩))
   all_goals
    clear ww GH c35 f35 C1 zz;go_wp2_with fail
    go_ret
    exact lj.out.done ⟨_,_,_,_,lj.out.out,.inr (.inr (.inl ⟨rfl,jx,by rw[HN.out,HK.out],vh.out,by rw[HN.out,HK.out],rfl⟩))⟩)
  |(
   guard_hyp N3
   have lg:IntKind.i64.wrap ((n:Int)-(a:Int))=(n:Int)-(a:Int):=IntWalk.i64_in _ (by omega)
   by_cases VL:N+a≤n
   case neg=>
    have ae:(n:Int)-(a:Int)<(N:Int):=by omega
    have ns:Hid (¬F3 n a rl k1 k2 114):=A6 (fun h=>by
     have h2:=h.2.2.1 rfl;rw[HN.out]at h2;exact VL h2)
    have x0:=X0.out w2 zt.out;clear VL;go_wp2_with fail
    go_ret
    exact eu.out.fail (by decide) ns.out
   have dy:¬(n:Int)-(a:Int)<(N:Int):=by omega
   have VK:a+N≤n:=by omega
   have DJ:=A6 (jS (k:=N) eu.out.blk zr.out jt.out (HI.out.mid.out.text.choose_spec.choose_spec.choose_spec.1) (HI.out.mid.out.edit.choose_spec.1) VI.out DH.out (HI.out.line.ext (HI.out.ext.trans zt.out)) hn VK);go_wp2_with fail
   refine DJ.out.mono ?_
   rintro e w3 ⟨⟨u,rfl⟩,ek⟩;have zz:w3.cell? ⟨w,0,none⟩=some (.pointer (some ⟨g,0,none⟩)):=(Aq.grown DH.out ek.1 (fun e=>by injection e with e;omega)).cell 0
   obtain⟨cs3,e3,dt,f6⟩:=eu.out.put ek;have C1:w3.cell? ⟨g,1,none⟩=some (.int .i64 (a:Int)):=dt.cell (by omega) jt.out
   have c35:=dt.oat;have f35:=dt.blk.frozen 35;have vh:=A6 f6;have fe:=A6 dt;have GH:IntKind.i64.wrap ((a:Int)+(N:Int))=(a:Int)+(N:Int):=IntWalk.i64_in _ (by omega)
   clear ek dt f6 DJ x1 y3 z0;have lj:=A6 ((fe.out.setAt ((a:Int)+(N:Int)-1)).ext (An.drew _));have VM:IntKind.i64.wrap ((a:Int)+(N:Int)-1)=(a:Int)+(N:Int)-1:=IntWalk.i64_in _ (by omega)
   clear sd lg dy;go_upto_region 18 with fail
   go_region_law (fail)
   all_goals
    clear GH VM c35 f35 C1 zz;go_wp2_with fail
    go_ret
    exact lj.out.done ⟨_,_,_,_,lj.out.out,.inr (.inr (.inr (.inl ⟨rfl,by rw[HN.out];exact VL,by rw[HN.out],vh.out,by rw[HN.out],rfl⟩)))⟩)
  |(
   guard_hyp N4
   have c65:=eu.out.mode;have f65:=eu.out.blk.frozen 65;have fe:=A6 (eu.out.setMode 1);go_wp2_with fail
   go_ret
   exact fe.out.done ⟨_,_,_,_,fe.out.out,.inr (.inr (.inr (.inr ⟨rfl,rfl,.inl ⟨rfl,rfl,rfl⟩⟩)))⟩)
  |(
   guard_hyp N5
   have c65:=eu.out.mode;have f65:=eu.out.blk.frozen 65;have fe:=A6 (eu.out.setMode 2);go_wp2_with fail
   go_ret
   exact fe.out.done ⟨_,_,_,_,fe.out.out,.inr (.inr (.inr (.inr ⟨rfl,rfl,.inr (.inr (.inr (.inr ⟨rfl,rfl,rfl⟩)))⟩)))⟩)
  |(
   guard_hyp N6
   have c65:=eu.out.mode;have f65:=eu.out.blk.frozen 65;have fe:=A6 (eu.out.setMode 1);have zz:(w2.setCell ⟨g,65,none⟩ (1:Int)).cell? ⟨w,0,none⟩=some (.pointer (some ⟨g,0,none⟩)):=(Bn DH.out (by omega) 65 _).cell 0
   have c35:=fe.out.oat;have f35:=fe.out.blk.frozen 35;have lj:=A6 (fe.out.setAt (n:Int));go_wp2_with fail
   go_ret
   exact lj.out.done ⟨_,_,_,_,lj.out.out,.inr (.inr (.inr (.inr ⟨rfl,rfl,.inr (.inr (.inr (.inl ⟨rfl,rfl,rfl⟩)))⟩)))⟩)
  |(
   guard_hyp N7
   have c65:=eu.out.mode;have f65:=eu.out.blk.frozen 65;have fe:=A6 (eu.out.setMode 1);have zz:(w2.setCell ⟨g,65,none⟩ (1:Int)).cell? ⟨w,0,none⟩=some (.pointer (some ⟨g,0,none⟩)):=(Bn DH.out (by omega) 65 _).cell 0
   have c35:=fe.out.oat;have f35:=fe.out.blk.frozen 35;have C1:(w2.setCell ⟨g,65,none⟩ (1:Int)).cell? ⟨g,1,none⟩=some (.int .i64 (a:Int)):=fe.out.cell (by omega) jt.out
   obtain⟨P,hP⟩:∃P:Nat,min (a+1) n=P:=⟨_,rfl⟩;have vc:min ((a:Int)+1) (n:Int)=(P:Int):=by omega
   have lg:IntKind.i64.wrap ((a:Int)+1)=(a:Int)+1:=IntWalk.i64_in _ (by omega)
   have VN:=A6 hP;have lj:=A6 ((fe.out.setAt (P:Int)).ext (An.drew _));clear hP;go_upto_region 26 with fail
   clear c65 f65;go_region_law (fail)
   all_goals
    clear lg vc c35 f35 C1 zz;go_wp2_with fail
    go_ret
    exact lj.out.done ⟨_,_,_,_,lj.out.out,.inr (.inr (.inr (.inr ⟨rfl,rfl,.inr (.inr (.inl ⟨rfl,by rw[VN.out],rfl⟩))⟩)))⟩)
  |(
   guard_hyp N8
   have c65:=eu.out.mode;have f65:=eu.out.blk.frozen 65;have fe:=A6 (eu.out.setMode 1);have zz:(w2.setCell ⟨g,65,none⟩ (1:Int)).cell? ⟨w,0,none⟩=some (.pointer (some ⟨g,0,none⟩)):=(Bn DH.out (by omega) 65 _).cell 0
   have c35:=fe.out.oat;have f35:=fe.out.blk.frozen 35;have C1:(w2.setCell ⟨g,65,none⟩ (1:Int)).cell? ⟨g,1,none⟩=some (.int .i64 (a:Int)):=fe.out.cell (by omega) jt.out
   have C0:(w2.setCell ⟨g,65,none⟩ (1:Int)).cell? ⟨g,0,none⟩=some (.slice A n c):=fe.out.cell (by omega) zr.out
   go_upto_region 23 with fail
   clear c65 f65;have HBx:=A6 (Bn DH.out (show g≠w.heap.size by omega) 65 (.int .i64 1))
   generalize w2.setCell ⟨g,65,none⟩ (1:Int)=w3 at*;have ln:=A6 (fun wx (he:An w3 wx)=>vW ((HI.out.line.ext (HI.out.ext.turned fe.out.grown HI.out.base)).ext he) HI.out.nums hn ha)
   refine wp_region_held_drew (S:=fun w'=>w'.cell? ⟨w,0,none⟩=some (.pointer (some ⟨g,0,none⟩))∧w'.cell? ⟨g,0,none⟩=some (.slice A n c)∧w'.cell? ⟨g,1,none⟩=some (.int .i64 (a:Int))) (by kernel_rfl) ⟨zz,C0,C1⟩ (fun aa=>?_)
   refine Bv (i:=0) (v:=some g) rfl aa ?_
   refine Bv (i:=1) (v:=some g) rfl aa ?_
   refine Bv (i:=2) (v:=some g) rfl aa ?_
   refine Bv (i:=3) (v:=some g) rfl aa ?_
   refine Bv (i:=4) (v:=some g) rfl aa ?_
   refine Bv (i:=5) (v:=(.slice A n c)) rfl aa ?_
   refine Bv (i:=6) (v:=some g) rfl aa ?_
   refine Bv (i:=7) (v:=some g) rfl aa ?_
   refine Bv (i:=8) (v:=some g) rfl aa ?_
   refine Bv (i:=9) (v:=(.pointer (some ⟨g,1,none⟩))) rfl aa ?_
   refine Bv (i:=10) (v:=(.int .i64 (a:Int))) rfl aa ?_
   refine Bv (i:=11) (v:=(.agg #[(94:Int),(0:Int),(0:Int)])) rfl aa ?_
   refine wpAnyH_ready (rs:=[12]) (by kernel_rfl) (by simp) ?_
   refine AllReadyH.cons rfl (fun K hK=>?_) AllReadyH.nil
   refine C8 rfl 108 #[.slice A n c,.int .i64 (a:Int),.agg #[(94:Int),(0:Int),(0:Int)],.bool false] rfl (by kernel_rfl) (fun v w'=>v=.tuple #[.int .i64 (Gi l:Nat),false,(0:Int)]∧Hid (An w3.drew w')) ((ln.out _ (An.drew w3)).mono fun e w' ⟨h1,h2⟩=>⟨_,h1,rfl,A6 h2⟩) ?_
   rintro v w4 ⟨rfl,li⟩;refine hK.out _ _ ⟨li.out.cell zz,li.out.cell C0,li.out.cell C1⟩ (fun af=>?_)
   clear hK K aa
   try simp only[List.getElem_toArray,List.getElem_cons_zero,List.getElem_cons_succ,Act.put,List.setIfInBounds_toArray,List.set_cons_zero,List.set_cons_succ]
   refine Bv (i:=13) (v:=(.tuple #[.int .i64 (Gi l:Nat),false,(0:Int)])) rfl af ?_
   refine Bv (i:=14) (v:=(.int .i64 (Gi l:Nat))) rfl af ?_
   refine Bv (i:=15) (v:=(.bool false)) rfl af ?_
   refine Bv (i:=16) (v:=(0:Int)) rfl af ?_
   refine Bv (i:=17) (v:=some g) rfl af ?_
   refine Bv (i:=18) (v:=(.pointer (some ⟨g,34,none⟩))) rfl af ?_
   refine Bv (i:=19) (v:=(.pointer (some ⟨g,34,none⟩))) rfl af ?_
   refine Bv (i:=20) (v:=(.pointer (some ⟨g,35,none⟩))) rfl af ?_
   refine wpAnyH_ready (rs:=[21]) (by kernel_rfl) (by simp) ?_
   refine AllReadyH.cons rfl (fun K hK=>?_) AllReadyH.nil
   have su:=(fe.out.ext (An.drew w3)).ext li.out;have lj:=su.setAt (Gi l:Nat);have c354:=su.oat;have f354:=su.blk.frozen 35;have zz6:(w4.setCell ⟨g,35,none⟩ (.int .i64 (Gi l:Nat))).cell? ⟨w,0,none⟩=some (.pointer (some ⟨g,0,none⟩)):=(Bn ((HBx.out.ext (An.drew w3)).ext li.out) (by omega) 35 _).cell 0
   have C06:=lj.cell (k:=0) (by omega) zr.out
   have C16:=lj.cell (k:=1) (by omega) jt.out
   go_simp
   refine hK.out _ _ ⟨zz6,C06,C16⟩ (fun bb=>?_)
   clear hK K af
   try simp only[List.getElem_toArray,List.getElem_cons_zero,List.getElem_cons_succ,Act.put,List.setIfInBounds_toArray,List.set_cons_zero,List.set_cons_succ]
   refine wpAnyH_done (by kernel_rfl) ?_ _
   have lj:=A6 lj;clear c35 f35 C1 C0 zz li ln su c354 f354 zz6 C06 C16;go_wp2_with fail
   go_ret
   exact lj.out.done ⟨_,_,_,_,lj.out.out,.inr (.inr (.inr (.inr ⟨rfl,rfl,.inr (.inl ⟨rfl,rfl,rfl⟩)⟩)))⟩)
  |(
   guard_hyp N9
   go_wp2_with fail
   go_ret
   exact eu.out.fail (by decide) (fun h=>ns.out h.2.2.2))
  |(
   obtain⟨P,hP⟩:∃P:Nat,min (a+1) n=P:=⟨_,rfl⟩;have VJ:P≤n:=by omega
   have vc:min ((a:Int)+1) (n:Int)=(P:Int):=by omega
   have lg:IntKind.i64.wrap ((a:Int)+1)=(a:Int)+1:=IntWalk.i64_in _ (by omega)
   have VN:=A6 hP;clear hP;have HP:=A6 (cW (p:=P) (HI.out.wext (zt.out.trans (An.drew w2))) VJ);go_upto_region 5 with fail
   go_region_law (first
    |(
     refine C8 rfl 110 #[.pointer (some ⟨g,0,none⟩),.int .i64 (P:Int)] rfl (by kernel_rfl) (fun v w'=>∃er,v=.int .i64 er∧Hid (Cv g w2.drew (Qg n rl k1 k2) (Ua g l n P rl k1 k2 fk fa) (.returned (.int .i64 er)) w')) (HP.out.mono fun e w' h=>by obtain⟨er,cs',h1,h2⟩:=h;exact⟨_,h1,er,rfl,A6 ⟨er,cs',rfl,h2⟩⟩) ?_
     rintro v w3 ⟨er,rfl,hD⟩))
   all_goals
    have HF:Hid (Cv g w (F3 n a rl k1 k2 112) (Eg g l n a rl k1 k2 112 k5 fk fa) (.returned (.int .i64 er)) w3):=A6 (hD.out.from (G0 (zt.out.trans (An.drew w2)) (some g)) (fun h=>h.1 (.inl rfl)) (fun cs' ⟨m,at_,e,h1,h2⟩=>⟨m,at_,0,e,h1,.inl ⟨rfl,by rw[VN.out];exact h2,rfl⟩⟩))
    clear hD HP z0 x1 y3;go_wp2_with fail
    go_ret
    exact HF.out)):p:=h
theorem K16 (h:p:=by
 first
  |(
   guard_hyp N1
   refine wpList_plain dn fun K hK=>?_)
  |(
   have hw:Region.wanted o (yielded ops a.tmps)=true:=by simp[Region.wanted,dn]
   rw[if_pos hw])
 have key:∃A' c' w',(Builtin.append_ #[t,t] o.type #[.slice A n c,.slice B m d]).run P w=.ok (.slice A' (n+m) c') w'∧Bd w' base e z A' (n+m) c' (xs++news)∧w.grownBy w' (Value.slice A n c).ownBlock∧
  ((Value.slice A' (n+m) c').ownBlock=(Value.slice A n c).ownBlock∨(Value.slice A' (n+m) c').ownBlock=some w.heap.size):=by
  rcases B with _|ad
  ·have h0:m=0:=by
    rcases Nat.eq_zero_or_pos m with h0|h0
    ·exact h0
    ·obtain⟨ad,h,_⟩:=hr.at_ h0
     cases h
   subst h0;have hn:news=[]:=List.eq_nil_of_length_eq_zero (by simpa using hr.len)
   subst hn;refine⟨A,c,w,?_,by simpa using ac,World.grownBy.refl w _,.inl rfl⟩
   rcases ac.2 with⟨hv,jx⟩|⟨g,cap,cur,hv,_,_,aw,_⟩
   ·injection hv with e1 e2 e3
    subst e1;subst e2;subst e3;simp[Builtin.append_,run_underlying ht,sizeOf,typeInfo,hi,Builtin.lenOf,Builtin.firstCells]
   ·injection hv with e1 e2 e3
    subst e1;subst e3;simp[Builtin.append_,run_underlying ht,sizeOf,typeInfo,hi,Builtin.lenOf,Builtin.firstCells,aw,storeCells]
  ·have hc:∀j u,news[j]? = some u→w.cell? (ad.add j)=some u:=by
    rcases Nat.eq_zero_or_pos m with h0|h0
    ·subst h0
     have hn:news=[]:=List.eq_nil_of_length_eq_zero (by simpa using hr.len)
     subst hn;intro j u hu;simp at hu
    ·obtain⟨VO,e1,hc⟩:=hr.at_ h0
     injection e1 with e1;subst e1;exact hc
   obtain⟨v',w',de,h2,h3,_,h5⟩:=run_append_own_at (P:=P) w base t o.type e i zv z bytes ht hi hz hsize IP IQ dl (.slice A n c) n xs ac ad m d news hr.len hc h1 IS jg l8;have hv:∃A' c',v'=.slice A' (n+m) c':=by
    exact I85
   obtain⟨A',c',rfl⟩:=hv;exact⟨A',c',w',de,h2,h3,h5⟩
 obtain⟨A',c',w',de,h2,h3,h4⟩:=key;unfold Oper.wp execOp;simp only[ho,resolve,invoke,builtin,Sem.run_bind,Sem.run_pure,Result.andThen_ok,List.map_toArray,List.map_cons,List.map_nil,hs,hx,de]
 first
  |(
   guard_hyp N1
   exact hK _ _ (h A' c' w' h2 h3 h4 (An.grown he h3 ac hb)))
  |(
   exact h A' c' w' h2 h3 h4 (An.grown he h3 ac hb))):p:=h
theorem K17 (h:p:=by
 first
  |(
   (first|guard_hyp N1|guard_hyp N4)
   have hx:=An.alloc w (.cells #[key,(1:Int),arg] 185);have hb:=Aq.new w 185 #[.int .i64 key,.int .i64 1,.int .i64 arg])
  |(
   (first|guard_hyp N2|guard_hyp N5)
   have hx:=An.alloc w (.cells #[key,q,arg] 185);have hb:=Aq.new w 185 #[.int .i64 key,.int .i64 q,.int .i64 arg])
  |(
   have hx:=An.alloc w (.cells #[key,(0:Int),arg] 185);have hb:=Aq.new w 185 #[.int .i64 key,.int .i64 0,.int .i64 arg])
 go_enter Tryz.func108,Tryz.ntmps108
 go_wp2_with fail
 refine(HC.out _).mono ?_
 rintro e w1 ⟨rfl,aj⟩;have al:=hb.ext aj;have he:=hx.trans aj;have c0:=al.cell 0;have c1:=al.cell 1;have c2:=al.cell 2;simp only[List.getElem?_toArray,List.getElem?_cons_zero,List.getElem?_cons_succ]at c0 c1 c2;clear hx hb aj;have JN:=he.hsize
 first
  |(
   (first|guard_hyp N2|guard_hyp N5)
   have bt:An w1 ((w1.alloc (.cells #[.slice A n c,k,q,op] 222)).alloc (.cells #[(0:Int),false] 224)):=(An.alloc _ _).to_alloc _)
  |(
   have bt:An w1 ((w1.alloc (.cells #[.slice A n c,k,(1:Int),op] 222)).alloc (.cells #[(0:Int),false] 224)):=(An.alloc _ _).to_alloc _)
 have d0:=bt.cell c0;have d2:=bt.cell c2
 first
  |(
   (first|guard_hyp N2|guard_hyp N5)
   have ap:=(Aq.new w1 222 #[.slice A n c,.int .i64 k,.int .i64 q,.bool op]).ext (An.alloc _ (.cells #[(0:Int),false] 224));have bn:Aq ((w1.alloc (.cells #[.slice A n c,k,q,op] 222)).alloc (.cells #[(0:Int),false] 224)) (w1.heap.size+1) 224 #[.int .i64 0,.bool false]:=by
    simpa using Aq.new (w1.alloc (.cells #[.slice A n c,k,q,op] 222)) 224 #[.int .i64 0,.bool false])
  |(
   have ap:=(Aq.new w1 222 #[.slice A n c,.int .i64 k,.int .i64 1,.bool op]).ext (An.alloc _ (.cells #[(0:Int),false] 224));have bn:Aq ((w1.alloc (.cells #[.slice A n c,k,(1:Int),op] 222)).alloc (.cells #[(0:Int),false] 224)) (w1.heap.size+1) 224 #[.int .i64 0,.bool false]:=by
    simpa using Aq.new (w1.alloc (.cells #[.slice A n c,k,(1:Int),op] 222)) 224 #[.int .i64 0,.bool false])
 go_wp2_with fail
 refine(HK.out _).mono ?_
 rintro e w2 ⟨rfl,rfl⟩;go_wp2_with fail
 refine(HP.out _ (he.trans bt)).mono ?_
 rintro e w3 ⟨⟨o,hR,hO⟩,cu⟩;have HR:=A6 hR;clear hR;have hq:=bn.ext cu;have f0:=hq.frozen 0;have f1:=hq.frozen 1;have c4:=hq.cell 0;have c5:=hq.cell 1;simp only[List.getElem?_toArray,List.getElem?_cons_zero,List.getElem?_cons_succ]at c4 c5;clear HP bn ap c0 c1 c2 d0 d2 al;rcases o with _|⟨m,i⟩
 ·rw[Nk]at hO
  subst hO;go_wp2_with fail
  have bi:Aq ((w3.setCell ⟨w1.heap.size+1,0,none⟩ (0:Int)).setCell ⟨w1.heap.size+1,1,none⟩ (.bool false)) (w1.heap.size+1) 224 #[.int .i64 0,.bool false]:=by
   simpa using(hq.set_ 0 (.int .i64 0)).set_ 1 (.bool false)
  have ix:=((he.trans (bt.trans cu)).setCell (p:=⟨w1.heap.size+1,0,none⟩) (Nat.le_succ_of_le JN) (.int .i64 0)).setCell (p:=⟨w1.heap.size+1,1,none⟩) (Nat.le_succ_of_le JN) (.bool false);clear c4 c5 f0 f1 hq
  revert bi ix
  generalize (w3.setCell ⟨w1.heap.size+1,0,none⟩ (0:Int)).setCell ⟨w1.heap.size+1,1,none⟩ (.bool false)=w4;intro bi ix;have c6:=bi.cell 0;have c7:=bi.cell 1;simp only[List.getElem?_toArray,List.getElem?_cons_zero,List.getElem?_cons_succ]at c6 c7;clear bi;go_quiet (fail)
  go_wp2_with fail
  go_ret3
  exact⟨⟨_,HR.out,rfl⟩,ix.to_drewN _⟩
 ·rw[Ty]at hO
  subst hO;go_wp2_with fail
  have bi:Aq ((w3.setCell ⟨w1.heap.size+1,0,none⟩ (.int .i64 (m:Int))).setCell ⟨w1.heap.size+1,1,none⟩ (.bool i)) (w1.heap.size+1) 224 #[.int .i64 (m:Int),.bool i]:=by
   simpa using(hq.set_ 0 (.int .i64 (m:Int))).set_ 1 (.bool i)
  have ix:=((he.trans (bt.trans cu)).setCell (p:=⟨w1.heap.size+1,0,none⟩) (Nat.le_succ_of_le JN) (.int .i64 (m:Int))).setCell (p:=⟨w1.heap.size+1,1,none⟩) (Nat.le_succ_of_le JN) (.bool i);clear c4 c5 f0 f1 hq
  revert bi ix
  generalize (w3.setCell ⟨w1.heap.size+1,0,none⟩ (.int .i64 (m:Int))).setCell ⟨w1.heap.size+1,1,none⟩ (.bool i)=w4;intro bi ix;have c6:=bi.cell 0;have c7:=bi.cell 1;simp only[List.getElem?_toArray,List.getElem?_cons_zero,List.getElem?_cons_succ]at c6 c7;clear bi;go_quiet (fail)
  go_wp2_with fail
  go_ret3
  exact⟨⟨_,HR.out,rfl⟩,ix.to_drewN _⟩):p:=h
theorem K18 (h:p:=by
 first
  |(
   guard_hyp N2
   have HA:Hid (∀wq:World,_):=A6 fun(wq:World)=>kC (k:=k) wq h hw
   unfold Kb at HA;simp only at HA)
  |skip
 obtain⟨a9,al,ak,hx⟩:=three (w:=w) (.int .i64 f) (.int .i64 r) (.int .i64 o) (.int .i64 s) (.int .i64 wt) (.int .i64 0) (.int .i64 0) (.int .i64 0) (.int .i64 0) (.int .i64 0) (.int .i64 0) (.int .i64 0) (.int .i64 0) (.int .i64 0) (.int .i64 0);have BA:Hid (∀wq:World,_):=A6 fun(wq:World)=>Tb wq h
 unfold Kb at BA;simp only at BA
 first
  |(
   guard_hyp N2
   have VG:(wt !=0)=true:=by simpa using hw
   rcases ht:Fr ⟨f,r,o,s,wt⟩ k with⟨⟨tf,tr,to,ts,tw⟩,⟨u0,u1,u2,u3,u4⟩,th⟩;rw[ht]at HA;unfold Uc Kb xN at HA;simp only at HA;clear ht hw;have kb:(k==127)=false:=by simpa using da)
  |skip
 clear h
 first
  |(
   guard_hyp N2
   unfold Uc Kb xN)
  |(
   unfold Kb)
 simp only;go_enter Tryz.func65,Tryz.ntmps65
 go_wp2_with fail
 refine(BA.out _).mono ?_
 rintro e w1 ⟨rfl,aj⟩;have lb:=A6 (a9.ext aj);have dz:=A6 (al.ext aj);have eh:=A6 (ak.ext aj);have JL:=A6 (hx.trans aj);obtain⟨⟨q0,q1,q2,q3,q4⟩,⟨r0,r1,r2,r3,r4⟩⟩:=lb.out.five;clear a9 al ak hx BA aj
 first
  |(
   guard_hyp N2
   go_wp2_with fail
   refine(HA.out _).mono ?_
   rintro e w2 ⟨rfl,au⟩;have oa:=A6 (dz.out.ext au);have ms:=A6 (eh.out.ext au);have ug:=A6 (JL.out.trans au);clear HA lb dz eh JL au;have ng:=D1 (.int .i64 u0) (.int .i64 u1) (.int .i64 u2) (.int .i64 u3) (.int .i64 u4) (Mm (.int .i64 tf) (.int .i64 tr) (.int .i64 to) (.int .i64 ts) (.int .i64 tw) oa.out) (show w.heap.size+1+1≠w.heap.size+1 by omega)
   have ko:=Mm (.int .i64 u0) (.int .i64 u1) (.int .i64 u2) (.int .i64 u3) (.int .i64 u4) (D1 (.int .i64 tf) (.int .i64 tr) (.int .i64 to) (.int .i64 ts) (.int .i64 tw) ms.out (show w.heap.size+1≠w.heap.size+1+1 by omega))
   have dq:=Do (.int .i64 u0) (.int .i64 u1) (.int .i64 u2) (.int .i64 u3) (.int .i64 u4) (Do (.int .i64 tf) (.int .i64 tr) (.int .i64 to) (.int .i64 ts) (.int .i64 tw) ug.out (Nat.le_succ w.heap.size)) (show w.heap.size≤w.heap.size+1+1 by omega))
  |(
   have ng:=D1 (.int .i64 0) (.int .i64 0) (.int .i64 0) (.int .i64 0) (.int .i64 0) (Mm (.int .i64 0) (.int .i64 0) (.int .i64 0) (.int .i64 0) (.int .i64 0) dz.out) (show w.heap.size+1+1≠w.heap.size+1 by omega)
   have ko:=Mm (.int .i64 0) (.int .i64 0) (.int .i64 0) (.int .i64 0) (.int .i64 0) (D1 (.int .i64 0) (.int .i64 0) (.int .i64 0) (.int .i64 0) (.int .i64 0) eh.out (show w.heap.size+1≠w.heap.size+1+1 by omega))
   have dq:=Do (.int .i64 0) (.int .i64 0) (.int .i64 0) (.int .i64 0) (.int .i64 0) (Do (.int .i64 0) (.int .i64 0) (.int .i64 0) (.int .i64 0) (.int .i64 0) JL.out (Nat.le_succ w.heap.size)) (show w.heap.size≤w.heap.size+1+1 by omega))
 obtain⟨⟨e0,e1,e2,e3,e4⟩,_⟩:=ng.five;obtain⟨⟨d0,d1,d2,d3,d4⟩,_⟩:=ko.five
 first
  |(
   guard_hyp N2
   obtain⟨⟨c0,c1,c2,c3,c4⟩,⟨f0,f1,f2,f3,f4⟩⟩:=Aq.five oa.out;obtain⟨⟨x0,x1,x2,x3,x4⟩,⟨y0,y1,y2,y3,y4⟩⟩:=Aq.five ms.out)
  |(
   obtain⟨⟨c0,c1,c2,c3,c4⟩,⟨f0,f1,f2,f3,f4⟩⟩:=Aq.five dz.out;obtain⟨⟨x0,x1,x2,x3,x4⟩,⟨y0,y1,y2,y3,y4⟩⟩:=Aq.five eh.out)
 clear ng ko;clear q0 q1 q2 q3 q4 r0 r1 r2 r3 r4;go_wp2_with fail
 refine bodyPost_ret (by simp[results,Tryz.results65,go_sem,e0,e1,e2,e3,e4,d0,d1,d2,d3,d4];try rfl) rfl ?_
 exact⟨rfl,dq⟩):p:=h
theorem K19 (h:p:=by
 first
  |(
   guard_hyp N1
   have IY:(k3==0)=false:=by simp[hk]
   have RV:Hid (∀wy,An wc wy→Calls Tryz.prog 109 #[.slice A n c,.int .i64 (a:Int),.agg #[mk,k1,ma]] wy fun e w'=>Lj l n a mk k1 ma e∧An wy w'):=A6 fun wy he=>
    oE (ze.out.line.ext (ze.out.ext.trans he)) ze.out.nums
   have HK:=A6 hk;have KQ:Hid (k3=100∨k3=99∨k3=121):=A6 (ve.resolve_left hk);clear hk ve;go_upto_region 9 with fail)
  |(
   subst hk;have MJ:Hid (∀wy,An wc wy→Calls Tryz.prog 108 #[.slice A n c,.int .i64 (a:Int),.agg #[mk,k1,ma],.bool false] wy fun e w'=>Ti l n a mk k1 ma false e∧An wy w'):=A6 fun wy he=>
    aW (ze.out.line.ext (ze.out.ext.trans he)) ze.out.nums
   go_upto_region 5 with fail)
 refine wp_region_held_drew (S:=fun w'=>w'.cell? ⟨g,0,none⟩=some (.slice A n c)∧w'.cell? ⟨g,1,none⟩=some (.int .i64 (a:Int))∧Aq w' p3 185 #[.int .i64 mk,.int .i64 k1,.int .i64 ma]) (by kernel_rfl) ⟨c0,c1,h3⟩ (fun aa=>?_)
 refine Bv (i:=0) (v:=some g) rfl aa ?_
 refine Bv (i:=1) (v:=some g) rfl aa ?_
 refine Bv (i:=2) (v:=some g) rfl aa ?_
 refine Bv (i:=3) (v:=some g) rfl aa ?_
 refine Bv (i:=4) (v:=(.slice A n c)) rfl aa ?_
 refine Bv (i:=5) (v:=some g) rfl aa ?_
 refine Bv (i:=6) (v:=some g) rfl aa ?_
 refine Bv (i:=7) (v:=some g) rfl aa ?_
 refine Bv (i:=8) (v:=(.pointer (some ⟨g,1,none⟩))) rfl aa ?_
 refine Bv (i:=9) (v:=(.int .i64 (a:Int))) rfl aa ?_
 refine Ga (i:=10) (v:=(.agg #[mk,k1,ma])) rfl (fun w ag=>by exact Ji rfl 185 (.tmp 3) rfl p3 0 rfl 185 #[.int .i64 mk,.int .i64 k1,.int .i64 ma] #[mk,k1,ma] (0,0) _ ag.2.2 (fun j v h=>by simpa using h) Tryz.underlying185 rfl Fl) aa ?_
 refine wpAnyH_ready (rs:=[11]) (by kernel_rfl) (by simp) ?_
 refine AllReadyH.cons rfl (fun K hK=>?_) AllReadyH.nil
 first
  |(
   guard_hyp N1
   refine C8 rfl 109 #[.slice A n c,.int .i64 (a:Int),.agg #[mk,k1,ma]] rfl (by kernel_rfl) (fun v w'=>∃(x y er:Int),v=.tuple #[x,y,er]∧Lj l n a mk k1 ma (.returned v)∧An wc.drew w') ((RV.out _ (An.drew wc)).mono fun e w' ⟨h1,h2⟩=>by obtain⟨x,y,er,rfl⟩:=V4 h1;exact⟨_,rfl,x,y,er,rfl,h1,h2⟩) ?_
   rintro v W1 ⟨x,y,er,rfl,hR,d8⟩)
  |(
   refine C8 rfl 108 #[.slice A n c,.int .i64 (a:Int),.agg #[mk,k1,ma],.bool false] rfl (by kernel_rfl) (fun v w'=>∃(x:Int) (i:Bool) (er:Int),v=.tuple #[x,i,er]∧Ti l n a mk k1 ma false (.returned v)∧An wc.drew w') ((MJ.out _ (An.drew wc)).mono fun e w' ⟨h1,h2⟩=>by obtain⟨x,i,er,rfl⟩:=bL h1;exact⟨_,rfl,x,i,er,rfl,h1,h2⟩) ?_
   rintro v W1 ⟨x,i,er,rfl,hR,d8⟩)
 refine hK.out _ _ ⟨d8.cell c0,d8.cell c1,h3.ext ((An.drew wc).trans d8)⟩ (fun af=>?_)
 clear hK K aa
 try simp only[List.getElem_toArray,List.getElem_cons_zero,List.getElem_cons_succ,Act.put,List.setIfInBounds_toArray,List.set_cons_zero,List.set_cons_succ]
 first
  |(
   guard_hyp N1
   refine Bv (i:=12) (v:=(.tuple #[x,y,er])) rfl af ?_)
  |(
   refine Bv (i:=12) (v:=(.tuple #[x,i,er])) rfl af ?_)
 refine Bv (i:=13) (v:=x) rfl af ?_
 first
  |(
   guard_hyp N1
   refine Bv (i:=14) (v:=y) rfl af ?_)
  |(
   refine Bv (i:=14) (v:=(.bool i)) rfl af ?_)
 refine Bv (i:=15) (v:=er) rfl af ?_
 refine Bv (i:=16) (v:=x) rfl af ?_
 first
  |(
   guard_hyp N1
   refine Bv (i:=17) (v:=y) rfl af ?_)
  |(
   refine Bv (i:=17) (v:=(.bool i)) rfl af ?_)
 refine Bv (i:=18) (v:=er) rfl af ?_
 refine wpAnyH_done (by kernel_rfl) ?_ _
 first
  |(
   guard_hyp N1
   clear c0 c1 c31 h3 af RV IY;have MI:=A6 ((ze.out.wext (An.drew wc)).wext d8);have MK:=A6 ((H4.out.ext (An.drew wc)).ext d8);have mi:=A6 ((HM.out.ext (An.drew wc)).ext d8);clear H3 H4 HM ze HX d8;rcases bI hR with⟨rfl,f,t,rfl,rfl,JO⟩|⟨ey,hG⟩
   case inr=>
    have AD:Hid (Cv g w (Pv l n a rl k1 k2 k3 k4 k5 fk fa) (Ku g l n a rl k1 k2 k3 k4 k5 fk fa) (.returned (.int .i64 er)) W1):=A6 (mi.out.fail ey (by
     rintro⟨QV,QW,IW,IX,h1,h2,h3,_⟩;rw[KU.out]at h1;injection h1 with h1;simp at h1;obtain⟨rfl,rfl,rfl,rfl⟩:=h1;exact hG ⟨h2,by simpa[HK.out]using h3⟩))
    clear hG hR;go_wp2_with fail
    go_ret
    exact AD.out
   case inl=>
    have HRI:=A6 JO;have l9:=JO.bd MI.out.place;have AE:=A6 (Rm (f:=f) (t:=t) (whole:=false) MI.out l9.2.2.1 l9.2.2.2 KQ.out);clear hR JO l9;go_wp2_with fail
    refine AE.out.mono ?_
    rintro e W2 ⟨er2,cs2,rfl,av,IU,cw⟩;have RE:=A6 (Da mi.out.grown av);by_cases au:er2=0
    case neg=>
     have AD:Hid (Cv g w (Pv l n a rl k1 k2 k3 k4 k5 fk fa) (Ku g l n a rl k1 k2 k3 k4 k5 fk fa) (.returned (.int .i64 er2)) W2):=A6 ⟨er2,cs2,rfl,RE.out,(by
      rintro⟨QV,QW,IW,IX,h1,h2,h3,h4⟩;rw[KU.out]at h1;injection h1 with h1;simp at h1;obtain⟨rfl,rfl,rfl,rfl⟩:=h1;exact IU (h4 HK.out f t HRI.out)),fun h=>absurd h au⟩
     clear av IU cw AE;go_wp2_with fail
     go_ret
     exact AD.out
    subst au;obtain⟨ak,az,sv,m,at_,md,co,e',ML,hrel⟩:=cw rfl;have eh:=A6 ak;have RW:=A6 az;have H42:=A6 (Aq.grown MK.out av (fun e=>by injection e with e;have:=HG.out;omega))
    have fe:Hid (Cv g w (Pv l n a rl k1 k2 k3 k4 k5 fk fa) (Ku g l n a rl k1 k2 k3 k4 k5 fk fa) (.returned (.int .i64 0)) (W2.setRow g (L0 cs2 63 #[zk,za]))):=A6 (by
     have BF:=(ML.grown (Fq W2 g (L0 cs2 63 #[zk,za])) (Nat.lt_succ_self g)).setFind zk za;exact⟨0,_,rfl,Da RE.out (Fq W2 g _),fun _=>rfl,fun _=>⟨Aq.setRow ak _,BF.size,BF.one,mk,ma,zk,za,KU.out,.inr ⟨HK.out,f,t,m,at_,md,co,e',HRI.out,BF,hrel⟩⟩⟩)
    clear ak az sv ML hrel av IU cw AE mi MI MK;go_wp2_with (first
     |(refine wpList_load_row rfl 36 (.tmp 4) rfl p4 rfl 36 #[.int .i64 zk,.int .i64 za] (0,0) _ H42.out Tryz.underlying36 rfl Dz ?_)
     |(refine Gd rfl 36 (.tmp 95) (.tmp 92) rfl g 63 #[zk,za] rfl rfl 118 cs2 eh.out Dz (by rw[RW.out];exact(by decide:65≤67)) (by simp[Value.oneCell']) ?_))
    go_ret
    exact fe.out)
  |(
   clear c0 c1 c31 h3 af MJ;have dm:=(HM.out.ext (An.drew wc)).ext d8;have c35:=dm.oat;have f35:=dm.blk.frozen 35;have h4:=(H4.out.ext (An.drew wc)).ext d8;have mi:=A6 dm;have MK:=A6 h4;clear H3 H4 HM ze HX d8 dm h4;rcases oV jh.out hR with⟨rfl,hG⟩|⟨ey,hG⟩
   case inr=>
    have AD:Hid (Cv g w (Pv l n a rl k1 k2 0 k4 k5 fk fa) (Ku g l n a rl k1 k2 0 k4 k5 fk fa) (.returned (.int .i64 er)) W1):=A6 (mi.out.fail ey (by
     rintro⟨QV,QW,IW,IX,h1,h2,h3,_⟩;rw[KU.out]at h1;injection h1 with h1;simp at h1;obtain⟨rfl,rfl,rfl,rfl⟩:=h1;exact hG ⟨h2,by simpa using h3⟩))
    clear hG hR;go_wp2_with fail
    go_ret
    exact AD.out
   case inl=>
    have HGI:=A6 hG;clear hG hR;go_upto_region 7 with fail
    have ej:Ds w g cs (W1.setCell ⟨g,35,none⟩ x).drew (cs.setIfInBounds 35 (.int .i64 x)) l x 0 fk fa rl []:=(mi.out.setAt x).ext (An.drew _);have h4d:Aq W1.drew p4 36 #[.int .i64 zk,.int .i64 za]:=MK.out.ext (An.drew _);have S2:Aq (W1.setCell ⟨g,35,none⟩ x).drew p4 36 #[.int .i64 zk,.int .i64 za]:=Bn MK.out (show g≠p4 by have:=HG.out;omega) 35 _
    have S3:=Aq.setRow_other S2 (g':=g) (L0 (cs.setIfInBounds 35 (.int .i64 x)) 63 #[zk,za]) (show p4≠g by have:=HG.out;omega)
    have fe:=A6 (ej.setFind zk za);refine wp_region_held_drew (S:=fun w'=>Aq w' p4 36 #[.int .i64 zk,.int .i64 za]) (by kernel_rfl) h4d (fun aa=>?_)
    refine Bf (i:=0) (v:=some g) rfl aa ?_
    refine Bf (i:=1) (v:=some g) rfl aa ?_
    refine Bf (i:=2) (v:=x) rfl aa ?_
    refine Ga (i:=3) (v:=(.agg #[zk,za])) rfl (fun w ag=>by exact Ji rfl 36 (.tmp 4) rfl p4 0 rfl 36 #[.int .i64 zk,.int .i64 za] #[zk,za] (0,0) _ ag (fun j v h=>by simpa using h) Tryz.underlying36 rfl Dz) aa ?_
    refine Bf (i:=4) (v:=some g) rfl aa ?_
    refine Bf (i:=5) (v:=(.pointer (some ⟨g,34,none⟩))) rfl aa ?_
    refine Bf (i:=6) (v:=(.pointer (some ⟨g,34,none⟩))) rfl aa ?_
    refine Bf (i:=7) (v:=(.pointer (some ⟨g,35,none⟩))) rfl aa ?_
    refine wpAnyH_ready (rs:=[8]) (by kernel_rfl) (by simp) ?_
    refine AllReadyH.cons rfl (fun K hK=>?_) AllReadyH.nil
    go_simp
    refine hK.out _ _ (S2:Aq (W1.setCell ⟨g,35,none⟩ x).drew p4 36 #[.int .i64 zk,.int .i64 za]) (fun af=>?_)
    clear hK K aa
    try simp only[List.getElem_toArray,List.getElem_cons_zero,List.getElem_cons_succ,Act.put,List.setIfInBounds_toArray,List.set_cons_zero,List.set_cons_succ]
    refine Bf (i:=9) (v:=some g) rfl af ?_
    refine Bf (i:=10) (v:=(.pointer (some ⟨g,34,none⟩))) rfl af ?_
    refine Bf (i:=11) (v:=(.pointer (some ⟨g,63,none⟩))) rfl af ?_
    refine wpAnyH_ready (rs:=[12]) (by kernel_rfl) (by simp) ?_
    refine AllReadyH.cons rfl (fun K hK=>?_) AllReadyH.nil
    refine Ca rfl 36 (.tmp 63) (.tmp 56) rfl g 63 #[zk,za] rfl rfl 118 _ ej.blk Dz (by rw[ej.out.size];exact(by decide:65≤67)) (by simp[Value.oneCell']) ?_
    refine hK.out _ _ S3 (fun bb=>?_)
    clear hK K af
    try simp only[List.getElem_toArray,List.getElem_cons_zero,List.getElem_cons_succ,Act.put,List.setIfInBounds_toArray,List.set_cons_zero,List.set_cons_succ]
    refine wpAnyH_done (by kernel_rfl) ?_ _
    have AD:Hid (Cv g w (Pv l n a rl k1 k2 0 k4 k5 fk fa) (Ku g l n a rl k1 k2 0 k4 k5 fk fa) (.returned (.int .i64 0)) _):=A6 (fe.out.done ⟨mk,ma,zk,za,KU.out,.inl ⟨rfl,x,HGI.out,fe.out.out⟩⟩);clear ej h4d S2 S3 fe HGI bb c35 f35;go_wp2_with fail
    go_ret
    exact AD.out)):p:=h
theorem K20 (h:p:=by
 go_simp
 first
  |(
   guard_hyp N1
   refine hK.out _ _ LU (fun _=>?_))
  |(
   refine hK.out _ _ hSp (fun _=>?_))
 clear hK K
 try simp only[List.getElem_toArray,List.getElem_cons_zero,List.getElem_cons_succ,Act.put,List.setIfInBounds_toArray,List.set_cons_zero,List.set_cons_succ]
 first
  |(
   guard_hyp N1
   refine wpAnyH_ready (rs:=[10]) (by decide +kernel) (by simp) (AllReadyH.cons rfl (fun K hK=>?_) AllReadyH.nil))
  |(
   refine wpAnyH_ready (rs:=[12]) (by decide +kernel) (by simp) (AllReadyH.cons rfl (fun K hK=>?_) AllReadyH.nil))
 go_simp
 refine hK.out _ _ LU (fun _=>?_)
 clear hK K
 try simp only[List.getElem_toArray,List.getElem_cons_zero,List.getElem_cons_succ,Act.put,List.setIfInBounds_toArray,List.set_cons_zero,List.set_cons_succ]
 refine wpAnyH_ready (rs:=[13]) (by decide +kernel) (by simp) (AllReadyH.cons rfl (fun K hK=>?_) AllReadyH.nil)
 have m8:=X8 cur;refine Pz rfl (.tmp 43) (.tmp 45) 25 rfl (yA cur) 0 3 i0 _ 1 8 Tryz.underlying25 hi bm bz az rfl (by decide) A5 n5 k5 _ rfl ua #[key] rfl (by simp[Value.oneCell']) rfl (by unfold maxLen;omega) (by omega) m8 (Nat.zero_le _) (Nat.zero_le _) ?_
 intro A2 k2 w7 db av cf _;have ia:=bj.grown av fun e=>RX e.symm
 have VP:=eb.grown av fun e=>ai e.symm
 refine hK.out _ _ ((VP.cell 47).trans (congrArg (fun x=>some (Value.pointer x)) RY.out)) (fun hS=>?_)
 clear hK K
 try simp only[List.getElem_toArray,List.getElem_cons_zero,List.getElem_cons_succ,Act.put,List.setIfInBounds_toArray,List.set_cons_zero,List.set_cons_succ]
 refine Bf (i:=14) (v:=some qq) rfl hS ?_
 refine Bf (i:=15) (v:=(.pointer (some ⟨qq,5,none⟩))) rfl hS ?_
 have e5:w7.cell? ⟨qq,5,none⟩=some (.slice A5 n5 k5):=ia.cell 5;have f5:=ia.frozen 5;refine wpAnyH_ready (rs:=[16]) (by decide +kernel) (by simp) (AllReadyH.cons rfl (fun K hK=>?_) AllReadyH.nil)
 go_simp
 have ic:=A6 (C6.trans VQ.out (uK hgM RY.out HHS.out G1.out bj ua G5.out av db cf (by omega)))
 have hpq:qq≠p:=G7 bj eb (by decide)
 have hp8:=Bn (g':=qq) VP hpq 5 (.slice A2 (n5+1) k2);have hS8:=(hp8.cell 47).trans (congrArg (fun x=>some (Value.pointer x)) RY.out)
 refine hK.out _ _ hS8 (fun _=>?_)
 clear hK K db av cf ia VP hp8 hS8 e5 f5 hS;refine wpAnyH_done (by kernel_rfl) ?_ _
 go_wp2_with fail
 go_end0
 refine⟨rfl,?_⟩
 rw[HF.out,HKM.out];have e:s.now.map (fun x=>(x.1,x.2++[key]))=some (c',l'++[key]):=by rw[HHS.out];rfl
 show C6 p w col { s with tx:=m,at_:=(a':Int),now:=s.now.map fun x=>(x.1,x.2++[key]) } _
 rw[e];exact ic.out):p:=h
theorem K21 (h:p:=by
 first
  |(
   guard_hyp N1
   have HB:Hid (Bj w (some (ad.add h1)) (n-h1) (c-h1) (l.drop h1)):=A6 (hl.back (k:=h1) (by omega)))
  |(
   have ep:n=h1:=by omega
   have HB:Hid (Bj w (some ad) 0 0 (l.drop h1)):=A6 (by
    have:l.drop h1=[]:=List.drop_eq_nil_of_le (by rw[ov.out];omega)
    rw[this];exact⟨rfl,Nat.le_refl _,Nat.zero_le _,fun h=>absurd h (by omega)⟩)
   have DK:Hid (h≤f∧0≤f∧h≤4096∧0≤4096):=A6 (by omega))
 have jt:Hid (∀(w1:World) (A':Option Addr) (n' c':Nat),(A'=some ad∧n'=h∧c'=c)→An w w1→Calls Tryz.prog 156 #[.slice A' n' c'] w1 fun e w'=>∃v,e=.returned (.pointer v)∧By w' v (Tr.buildF f (l.take h))∧An w1 w'):=
  A6 (fun w1 A' n' c' hq he=>by
   rw[hq.1,hq.2.1,hq.2.2];exact IH.out (l.take h) _ _ _ w1 (HF.out.ext he) DK.out.1 DK.out.2.2.1)
 first
  |(
   guard_hyp N1
   have lu:Hid (∀(w1:World) (A':Option Addr) (n' c':Nat),(A'=some (ad.add h1)∧n'=n-h1∧c'=c-h1)→An w w1→Calls Tryz.prog 156 #[.slice A' n' c'] w1 fun e w'=>∃v,e=.returned (.pointer v)∧By w' v (Tr.buildF f (l.drop h1))∧An w1 w'):=
    A6 (fun w1 A' n' c' hq he=>by
     rw[hq.1,hq.2.1,hq.2.2];exact IH.out (l.drop h1) _ _ _ w1 (HB.out.ext he) DK.out.2.1 DK.out.2.2.2))
  |(
   have lu:Hid (∀(w1:World) (A':Option Addr) (n' c':Nat),(A'=(some ad)∧n'=0∧c'=0)→An w w1→Calls Tryz.prog 156 #[.slice A' n' c'] w1 fun e w'=>∃v,e=.returned (.pointer v)∧By w' v (Tr.buildF f (l.drop h1))∧An w1 w'):=
    A6 (fun w1 A' n' c' hq he=>by
     rw[hq.1,hq.2.1,hq.2.2];exact IH.out (l.drop h1) _ _ _ w1 (HB.out.ext he) DK.out.2.1 DK.out.2.2.2)
   subst sw;subst ep)
 clear hc hh hh1 HF HB IH DK ov hl;have ax:=And.intro zu (And.intro jt lu);clear zu jt lu
 revert ax
 generalize Tr.buildF f (l.take h)=T1
 first
  |(
   guard_hyp N1
   generalize Tr.buildF f (l.drop h1)=T2)
  |(
   generalize Tr.buildF f (l.drop n)=T2)
 rintro⟨zu,jt,lu⟩;go_enter Tryz.func156,Tryz.ntmps156
 go_wp2_with fail
 go_region_held3 (fun w'=>w'.cell? (ad.add h)=some (.int .i64 (gI l h))) (first|go_keep|(exact An.cell (by assumption) (by assumption))) (first
  |(
   go_at_call 156
   first
    |(
     refine(jt.out _ _ _ _ ⟨by with_reducible rfl,by with_reducible rfl,by with_reducible rfl⟩ (by first|exact fj|exact fj.trans (by assumption))).mono ?_
     rintro e wa ⟨v1,rfl,JP,MM⟩)
    |(
     refine(lu.out _ _ _ _ ⟨by with_reducible rfl,by with_reducible rfl,by with_reducible rfl⟩ (by first|exact fj|exact fj.trans (by assumption))).mono ?_
     rintro e wb ⟨v2,rfl,rf,VR⟩))
  |(
   go_at_call 177
   refine(zQ (By.ext VR JP) rf zu.out).mono ?_
   rintro e wc ⟨v3,rfl,ui,kd⟩))
 all_goals
  go_wp2_with fail
  go_ret
  exact⟨_,rfl,ui,fj.trans (MM.trans (VR.trans kd))⟩):p:=h
theorem K22 (h:p:=by
 unfold maxLen at aq;have hm:(k:Int)≤max 0 ((n:Int)-1):=by omega
 first
  |(
   guard_hyp N1
   rcases fg with rfl|rfl|rfl
   all_goals
    go_enter Tryz.func75,Tryz.ntmps75
    go_wp2_with fail)
  |(
   guard_hyp N2
   rcases fg with rfl|rfl|rfl|rfl|rfl|rfl
   all_goals
    first
     |rw[show opF 40=40 by decide]at HB
     |rw[show opF 41=40 by decide]at HB
     |rw[show opF 91=91 by decide]at HB
     |rw[show opF 93=91 by decide]at HB
     |rw[show opF 123=123 by decide]at HB
     |rw[show opF 125=123 by decide]at HB
    go_enter Tryz.func75,Tryz.ntmps75
    go_wp2_with fail)
  |(
   rcases fg with⟨rfl,rfl⟩|⟨rfl,rfl⟩
   all_goals
    go_enter Tryz.func75,Tryz.ntmps75
    go_wp2_with fail)
 all_goals
  refine HB.out.mono ?_
  rintro e w1 ⟨⟨x,y,er,hf,rfl⟩,aj⟩;have HF:=A6 hf;clear hf HB;have a9:=(Aq.new w 196 #[.int .i64 0,.int .i64 0]).ext aj;have he:=(An.alloc w (.cells #[(0:Int),(0:Int)] 196)).trans aj;have f0:=a9.frozen 0;have f1:=a9.frozen 1;have c4:=a9.cell 0;have c5:=a9.cell 1;simp only[List.getElem?_toArray,List.getElem?_cons_zero,List.getElem?_cons_succ]at c4 c5;go_wp2_with fail
  have bi:Aq ((w1.setCell ⟨w,0,none⟩ x).setCell ⟨w,1,none⟩ y) w.heap.size 196 #[.int .i64 x,.int .i64 y]:=by
   simpa using(a9.set_ 0 (.int .i64 x)).set_ 1 (.int .i64 y)
  have ix:=(he.setCell (p:=⟨w,0,none⟩) (by simp) (.int .i64 x)).setCell (p:=⟨w,1,none⟩) (by simp) (.int .i64 y)
  clear c4 c5 f0 f1 a9
  revert bi ix
  generalize (w1.setCell ⟨w,0,none⟩ x).setCell ⟨w,1,none⟩ y=w2;intro bi ix;have c6:=bi.cell 0;have c7:=bi.cell 1;simp only[List.getElem?_toArray,List.getElem?_cons_zero,List.getElem?_cons_succ]at c6 c7;clear bi;go_quiet (fail)
  go_wp2_with fail
  go_ret3
  exact⟨⟨x,y,er,HF.out,rfl⟩,ix.to_drewN _⟩):p:=h
theorem K23 (h:p:=by
 obtain⟨i0,hi,bm,bz,az⟩:=info_parts Cd;have jh:=hl.len;have aw:=hl.ncap;have x0:w.cell? ⟨g,0,none⟩=some (.slice A n c):=(hb.cell 0).trans h0;have x1:w.cell? ⟨g,1,none⟩=some (.int .i64 (a:Int)):=(hb.cell 1).trans h1;have HB:=A6 hb;have HL:=A6 hl;have H0:=A6 h0;have H1:=A6 h1;have RB:=A6 dx;have RC:=A6 AB;have Tu:=A6 jh;have hac:a≤c:=by omega
 have hakc:a+k≤c:=by omega
 have lg:IntKind.i64.wrap ((a:Int)+(k:Int))=(a:Int)+(k:Int):=IntWalk.i64_in _ (by omega)
 obtain⟨T2,AC⟩:∃T2,(if c=a then A else Option.map (fun x=>x.add a) A)=T2:=⟨_,rfl⟩
 obtain⟨S,hS⟩:∃S,(l.drop a).take k=S:=⟨_,rfl⟩;have MN:a+k-a=k:=by omega
 have HS:Hid (Bj w T2 k (c-a) S):=A6 (by
  have h:=hl.cut (k:=a) (m:=a+k) (by omega) QT
  rw[AC,MN,hS]at h;exact h)
 have HSd:=A6 hS;have RZ:S.length=k:=by rw[←hS];simp;omega
 first
  |(
   guard_hyp N1
   obtain⟨M,hM⟩:∃M,S.map (fun _=>k5)=M:=⟨_,rfl⟩)
  |(
   obtain⟨M,hM⟩:∃M,S.map Nz=M:=⟨_,rfl⟩)
 have MO:=A6 hM;have LB:Hid (M.length=k):=A6 (by rw[←hM];simpa using RZ)
 first
  |(
   guard_hyp N1
   have HMs:Hid (∀i,i<k→M.take (i+1)=M.take i++[k5]):=A6 (fun i hi=>by
    rw[←hM,List.take_succ_eq_append_getElem (by simp;omega)]
    simp)
   have HSl:=A6 RZ)
  |(
   have HMs:Hid (∀i,i<k→M.take (i+1)=M.take i++[Nz (gI S i)]):=A6 (fun i hi=>by
    rw[←hM,List.take_succ_eq_append_getElem (by simp;omega)]
    simp[gI,RZ,hi]))
 clear hM RZ
 first
  |(
   guard_hyp N1
   have H33:=A6 lh;have VS:=A6 qk;clear hb h0 h1 dx AB hl jh hS lh qk)
  |(
   clear hb h0 h1 dx AB hl jh hS)
 go_enter Tryz.func111,Tryz.ntmps111
 go_wp2_with fail
 go_quiet (fail)
 clear AC MN lg x0 x1;have oq:=A6 (An.drewN w nq);have VT:Hid (Ba (w.drewN nq) w.heap.size none 0 0 (M.take 0)):=A6 (Ba.nil _ _);generalize w.drewN nq=wz at*
 try simp only[Nat.add_sub_cancel_left]
 go_wp2_with fail
 go_loopw [6,28] (fun s6 s28 wx=>∃(i d:Nat) (B:Option Addr),i≤k∧s28=.int .i64 i∧s6=.slice B i d∧Hid (Ba wx w.heap.size B i d (M.take i))∧Hid (An w wx)) (fun _ s28 _=>k-(intOf s28).toNat)
 case atStart=>exact⟨0,0,none,by omega,rfl,rfl,VT,oq⟩
 first
  |(
   guard_hyp N1
   case round=>
    clear oq VT;obtain⟨i,d,B,zw,rfl,rfl,HO,HX⟩:=hrel;by_cases ae:i<k
    ·obtain⟨ad,e,hc⟩:=(HS.out.ext HX.out).at_ (k:=i) ae
     subst e;have FM:=hc i ae;have HT:=A6 (J5h (HB.out.ext HX.out) H33.out (VS.out.ext HX.out) (gI S i));have RK:=HX.out.hsize;have ac:=HO.out;have m8:=HX.out;clear hc;go_wp2_with fail
     refine HT.out.mono ?_
     rintro e w' ⟨rfl,rfl⟩;clear HT;go_wp2_with (at_builtin;refine C9 rfl (.tmp 32) (.tmp 36) 25 rfl w w.heap.size 3 i0 (.int .i64 0) 1 8 Tryz.underlying25 hi bm bz az rfl (by decide) B i d _ rfl ac #[k5] rfl (by simp[Value.oneCell']) rfl (by unfold maxLen;omega) (by omega) m8 (Nat.le_refl _) RK ?_)
     exact I24
    ·obtain rfl:i=k:=by omega
     have MP:M.take i=M:=List.take_of_length_le (by rw[LB.out];exact Nat.le_refl _)
     rw[MP]at HO;clear MP;have x0:wr.cell? ⟨g,0,none⟩=some (.slice A n c):=HX.out.cell ((HB.out.cell 0).trans H0.out);have x1:wr.cell? ⟨g,1,none⟩=some (.int .i64 (a:Int)):=HX.out.cell ((HB.out.cell 1).trans H1.out);have lg:IntKind.i64.wrap ((a:Int)+(i:Int))=(a:Int)+(i:Int):=IntWalk.i64_in _ (by omega)
     have ek:=(Wp (f:=a) (t:=a+i) ((HB.out.ext HX.out).ext (An.drew wr)) H0.out RB.out RC.out ((HL.out.ext HX.out).ext (An.drew wr)) (HO.out.ints.ext (An.drew wr)) (Bd.nocap HO.out) (by omega) QT hn (by omega))
     rw[show((a+i:Nat):Int)=(a:Int)+(i:Int)by omega]at ek
     have HP:=A6 ek;clear ek;clear HO HS;go_upto_region 6 with fail
     go_region_law (first
      |(
       refine C8 rfl 116 #[.pointer (some ⟨g,0,none⟩),.int .i64 (a:Int),.int .i64 ((a:Int)+(i:Int)),.slice B i d] rfl (by kernel_rfl) (fun v w'=>Ui wr.drew g cs l (l.take a++M++l.drop (a+i)) w') (HP.out.mono fun e w' ⟨⟨u,h1⟩,h2⟩=>⟨u,h1,h2⟩) ?_
       rintro v w3 ek))
     all_goals
      have VU:Hid (Ui w g cs l (Rw l a i k5) w3):=A6 (by
       obtain⟨h1,B',q',b',O',k',z',e',h2,h3,h4,h5,h6⟩:=ek;have he:l.take a++M++l.drop (a+i)=Rw l a i k5:=by
        unfold Rw;have hm:=MO.out;rw[List.map_const']at hm;rw[←hm,HSl.out]
       rw[he]at h3 h5;have dy:w.heap.size≤wr.drew.heap.size:=HX.out.hsize;exact⟨Da (G0 (HX.out.trans (An.drew wr)) (some g)) h1,B',q',b',O',k',z',e',h2,Bd.lower h3 dy,h4.lower dy,h5,h6⟩)
      clear ek;go_wp2_with fail
      go_end0
      exact⟨⟨_,rfl⟩,VU.out⟩)
  |(
   case round=>
    clear oq VT;obtain⟨i,d,B,zw,rfl,rfl,HO,HX⟩:=hrel;by_cases ae:i<k
    ·obtain⟨ad,e,hc⟩:=(HS.out.ext HX.out).at_ (k:=i) ae
     subst e;have FM:=hc i ae;have HT:=A6 (mM (gI S i) wr);have RK:=HX.out.hsize;have ac:=HO.out;have m8:=HX.out;clear hc;go_wp2_with fail
     refine HT.out.mono ?_
     rintro e w' ⟨rfl,rfl⟩;clear HT;go_wp2_with (at_builtin;refine C9 rfl (.tmp 32) (.tmp 36) 25 rfl w w.heap.size 3 i0 (.int .i64 0) 1 8 Tryz.underlying25 hi bm bz az rfl (by decide) B i d _ rfl ac #[.int .i64 (Nz (gI S i))] rfl (by simp[Value.oneCell']) rfl (by unfold maxLen;omega) (by omega) m8 (Nat.le_refl _) RK ?_)
     exact I24
    ·obtain rfl:i=k:=by omega
     have MP:M.take i=M:=List.take_of_length_le (by rw[LB.out];exact Nat.le_refl _)
     rw[MP]at HO;clear MP;have x0:wr.cell? ⟨g,0,none⟩=some (.slice A n c):=HX.out.cell ((HB.out.cell 0).trans H0.out);have x1:wr.cell? ⟨g,1,none⟩=some (.int .i64 (a:Int)):=HX.out.cell ((HB.out.cell 1).trans H1.out);have lg:IntKind.i64.wrap ((a:Int)+(i:Int))=(a:Int)+(i:Int):=IntWalk.i64_in _ (by omega)
     have ek:=(Wp (f:=a) (t:=a+i) ((HB.out.ext HX.out).ext (An.drew wr)) H0.out RB.out RC.out ((HL.out.ext HX.out).ext (An.drew wr)) (HO.out.ints.ext (An.drew wr)) (Bd.nocap HO.out) (by omega) QT hn (by omega))
     rw[show((a+i:Nat):Int)=(a:Int)+(i:Int)by omega]at ek
     have HP:=A6 ek;clear ek;clear HO HS;go_upto_region 6 with fail
     go_region_law (first
      |(
       refine C8 rfl 116 #[.pointer (some ⟨g,0,none⟩),.int .i64 (a:Int),.int .i64 ((a:Int)+(i:Int)),.slice B i d] rfl (by kernel_rfl) (fun v w'=>Ui wr.drew g cs l (l.take a++M++l.drop (a+i)) w') (HP.out.mono fun e w' ⟨⟨u,h1⟩,h2⟩=>⟨u,h1,h2⟩) ?_
       rintro v w3 ek))
     all_goals
      have VU:Hid (Ui w g cs l (Ry l a i) w3):=A6 (by
       obtain⟨h1,B',q',b',O',k',z',e',h2,h3,h4,h5,h6⟩:=ek;have he:l.take a++M++l.drop (a+i)=Ry l a i:=by unfold Ry;rw[HSd.out,MO.out]
       rw[he]at h3 h5;have dy:w.heap.size≤wr.drew.heap.size:=HX.out.hsize;exact⟨Da (G0 (HX.out.trans (An.drew wr)) (some g)) h1,B',q',b',O',k',z',e',h2,Bd.lower h3 dy,h4.lower dy,h5,h6⟩)
      clear ek;go_wp2_with fail
      go_end0
      exact⟨⟨_,rfl⟩,VU.out⟩)):p:=h
theorem K24 (h:p:=by
 first
  |(
   guard_hyp N1
   have b1:((k:Int)==(n:Int))=false:=by simp;omega
   have HE:Hid (¬(k=n∧k=q)):=A6 (fun h=>jc h.1)
   clear jc)
  |(
   have b1:((k:Int)==(n:Int))=true:=by simp;omega
   have b2:((k:Int)==(q:Int))=false:=by simp;omega
   have HE:Hid (¬(k=n∧k=q)):=A6 (fun h=>QQ h.2)
   clear jc QQ)
 obtain⟨v,hv⟩:∃v,v=q-j:=⟨_,rfl⟩;obtain⟨u,hu⟩:∃u,u=n-j:=⟨_,rfl⟩;have hkv:k≤v:=by omega
 have hvq:v≤q:=by omega
 have hvj:(q:Int)-(j:Int)=(v:Int):=by omega
 have huj:(n:Int)-(j:Int)=(u:Int):=by omega
 have MQ:=Wj B q d k v hkv (by omega)
 have GI:=A6 (Dj ((hm.cutA hkv hvq).ext fj) (Zw KL.out) (by omega))
 have HV:=A6 (And.intro hv hu);clear hv hu;go_wp2_with fail
 refine GI.out.mono ?_
 rintro e' w3 ⟨C,dc,rfl,le,VV,cu⟩;have bg:=fj.trans cu;have li:=bg.to_alloc (.cells #[k,.int .i64 u,.slice C (v-k) dc] 268);have oy:=Aq.new w3 268 #[.int .i64 k,.int .i64 u,.slice C (v-k) dc];have AG:=J0w (base:=w.heap.size) oy bg.hsize (Bd.lower (Ba.ext le (An.alloc w3 (.cells #[k,.int .i64 u,.slice C (v-k) dc] 268))) fj.hsize) VV (fun k' di=>by have:=(Bd.blk le k' di).2;omega)
 have UG:Hid (Es (w3.alloc (.cells #[k,.int .i64 u,.slice C (v-k) dc] 268)) w.heap.size (.slice (some ⟨w3,0,none⟩) 1 1) [Re l m k j]):=A6 (by
  unfold Re;rw[jh.out,vc.out,←HV.out.1,←HV.out.2];exact AG)
 clear GI le VV oy AG cu MQ hvj huj;go_wp2_with fail
 go_ret2
 exact⟨⟨k,j,HB.out,.inr ⟨HE.out,w3.heap.size,rfl,UG.out⟩⟩,li⟩):p:=h
theorem K25 (h:p:=by
 have d1:=he.cell (HC.out t ae);by_cases heq:Bk (gI l t) big=Bk (gI l k) big
 ·have b1:(Bk (gI l t) big==Bk (gI l k) big)=true:=by simpa using heq
  have HQ:Hid (Bb l big t=Bb l big k):=A6 (by rw[BD.out t ae,re.out];exact heq)
  clear heq;go_wp2_with fail
  refine(Jf _ _ _).mono ?_
  rintro e w2 ⟨rfl,rfl⟩;go_wp2_with fail
  first
   |(
    guard_hyp N1
    have ap:Aq (wr.setCell ⟨w.heap.size+1,1,none⟩ (.int .i64 ((t:Int)+1))) (w.heap.size+1) 196 #[.int .i64 ((g+1:Nat):Int),.int .i64 ((t+1:Nat):Int)]:=by
     simpa using ak.set_ 1 (.int .i64 ((t:Int)+1)))
   |(
    have ap:Aq (wr.setCell ⟨w.heap.size+1,1,none⟩ (.int .i64 ((t:Int)+1))) (w.heap.size+1) 196 #[.int .i64 ((0:Nat):Int),.int .i64 ((t+1:Nat):Int)]:=by
     simpa using ak.set_ 1 (.int .i64 ((t:Int)+1)))
  have c2:=ap.cell 1;simp only[List.getElem?_toArray,List.getElem?_cons_zero,List.getElem?_cons_succ]at c2;refine⟨⟨t+1,by omega,by omega,fun x h1 h2=>?_,al.keepCell2 (by simp) _,ap,he.setCell (by simp) _⟩,?_⟩
  ·rcases Nat.lt_or_ge x t with h3|h3
   ·exact sx.out x h1 h3
   ·obtain rfl:x=t:=by omega
    exact HQ.out
  ·rw[Q3 c2,HM.out];omega
 ·have b1:(Bk (gI l t) big==Bk (gI l k) big)=false:=by simpa using heq
  have HQ:Hid (Bb l big t≠Bb l big k):=A6 (by rw[BD.out t ae,re.out];exact heq)
  clear heq;have HR:Hid (Fi l big (Bb l big k) k=t):=A6 (Sc (by rw[re.out];exact(Nh _ _).1) nh sx.out HQ.out)
  have f2:=al.frozen 0;have f3:=al.frozen 1;have c4:=al.cell 0;have c5:=al.cell 1;simp only[List.getElem?_toArray,List.getElem?_cons_zero,List.getElem?_cons_succ]at c4 c5;go_wp2_with fail
  refine(Jf _ _ _).mono ?_
  rintro e w2 ⟨rfl,rfl⟩;go_wp2_with fail
  first
   |(
    guard_hyp N1
    have bi:Aq ((wr.setCell ⟨w,0,none⟩ (.int .i64 ((g:Int)+1))).setCell ⟨w,1,none⟩ t) w.heap.size 196 #[.int .i64 ((g:Int)+1),.int .i64 t]:=by
     simpa using(al.set_ 0 (.int .i64 ((g:Int)+1))).set_ 1 (.int .i64 t))
   |(
    have bi:Aq ((wr.setCell ⟨w,0,none⟩ (0:Int)).setCell ⟨w,1,none⟩ t) w.heap.size 196 #[.int .i64 0,.int .i64 t]:=by
     simpa using(al.set_ 0 (.int .i64 0)).set_ 1 (.int .i64 t))
  have c6:=bi.cell 0;have c7:=bi.cell 1;simp only[List.getElem?_toArray,List.getElem?_cons_zero,List.getElem?_cons_succ]at c6 c7;clear c4 c5 f2 f3 c0 c1 bi;rw[VW.out,HR.out];refine bodyPost_ret (by simp[results,Tryz.results150,go_sem,c6,c7];try rfl) rfl ?_
  exact⟨rfl,(he.setCell (by simp) _).setCell (by simp) _⟩):p:=h
theorem Qo (h:p:=by
 unfold maxLen at aq;have am:An w ((w.alloc (.cells #[.slice A n c,k,g,op] 222)).alloc (.cells #[(0:Int),false] 224)):=(An.alloc _ _).to_alloc _;have ak:=Za w (.slice A n c) (.int .i64 k) (.int .i64 g) (.bool op);have al:=vN w (.slice A n c) (.int .i64 k) (.int .i64 g) (.bool op)
 first
  |(
   (first|guard_hyp N1|guard_hyp N4|guard_hyp N6)
   have HB:=A6 ak;have HE:=A6 am;have c0:=ak.cell 0;have c1:=ak.cell 1;have f0:=ak.frozen 0;have f1:=ak.frozen 1;have d0:=al.cell 0;have d1:=al.cell 1;have d2:=al.cell 2;have d3:=al.cell 3;simp only[List.getElem?_toArray,List.getElem?_cons_zero,List.getElem?_cons_succ]at c0 c1 d0 d1 d2 d3;clear ak al am;go_enter Tryz.func146,Tryz.ntmps146
   go_wp2_with fail
   all_goals
    obtain⟨c6,c7,hx,ay,bt⟩:=Dk HB.out HE.out (by simp)
    refine bodyPost_ret (by simp[results,Tryz.results146,go_sem,c6,c7];try rfl) rfl ?_
    refine⟨Qj (by omega),by first|exact hx _ _|exact HE.out|exact ay _|exact bt _|exact(An.alloc _ _).to_alloc _⟩)
  |(
   (first|guard_hyp N12|guard_hyp N14|guard_hyp N16)
   have d0:=al.cell 0;have d1:=al.cell 1;simp only[List.getElem?_toArray,List.getElem?_cons_zero,List.getElem?_cons_succ]at d0 d1;go_enter Tryz.func146,Tryz.ntmps146
   go_wp2_with fail
   refine(H.out _ am).mono ?_
   rintro e w1 ⟨rfl,aj⟩;clear d0 d1;have bf:=ak.ext aj;have bu:=al.ext aj;have HB:=A6 bf;have HE:=A6 (am.trans aj);have c0:=bf.cell 0;have c1:=bf.cell 1;have f0:=bf.frozen 0;have f1:=bf.frozen 1;have d0:=bu.cell 0;have d1:=bu.cell 1;have d2:=bu.cell 2;have d3:=bu.cell 3;simp only[List.getElem?_toArray,List.getElem?_cons_zero,List.getElem?_cons_succ]at c0 c1 d0 d1 d2 d3;clear ak al am aj bu bf;go_wp2_with fail
   all_goals
    obtain⟨c6,c7,hx,ay,bt⟩:=Dk HB.out HE.out (by simp)
    refine bodyPost_ret (by simp[results,Tryz.results146,go_sem,c6,c7];try rfl) rfl ?_
    refine⟨rfl,by first|exact hx _ _|exact HE.out|exact ay _|exact bt _|exact(An.alloc _ _).to_alloc _⟩)
  |(
   (first|guard_hyp N17|guard_hyp N18|guard_hyp N19|guard_hyp N20|guard_hyp N21)
   rcases o with _|⟨a,i⟩
   ·have d0:=al.cell 0
    have d1:=al.cell 1;simp only[List.getElem?_toArray,List.getElem?_cons_zero,List.getElem?_cons_succ]at d0 d1;go_enter Tryz.func146,Tryz.ntmps146
    go_wp2_with fail
    refine(H.out _ am).mono ?_
    rintro e w1 ⟨he,aj⟩;rw[Nk]at he;subst he;clear d0 d1;have bf:=ak.ext aj;have bu:=al.ext aj;have HB:=A6 bf;have HE:=A6 (am.trans aj);have c0:=bf.cell 0;have c1:=bf.cell 1;have f0:=bf.frozen 0;have f1:=bf.frozen 1;have d0:=bu.cell 0;have d1:=bu.cell 1;have d2:=bu.cell 2;have d3:=bu.cell 3;simp only[List.getElem?_toArray,List.getElem?_cons_zero,List.getElem?_cons_succ]at c0 c1 d0 d1 d2 d3;clear ak al am aj bu bf;go_wp2_with fail
    all_goals
     obtain⟨c6,c7,hx,ay,bt⟩:=Dk HB.out HE.out (by simp)
     refine bodyPost_ret (by simp[results,Tryz.results146,go_sem,c6,c7];try rfl) rfl ?_
     refine⟨rfl,by first|exact hx _ _|exact HE.out|exact ay _|exact bt _|exact(An.alloc _ _).to_alloc _⟩
   ·have d0:=al.cell 0
    have d1:=al.cell 1;simp only[List.getElem?_toArray,List.getElem?_cons_zero,List.getElem?_cons_succ]at d0 d1;go_enter Tryz.func146,Tryz.ntmps146
    go_wp2_with fail
    refine(H.out _ am).mono ?_
    rintro e w1 ⟨he,aj⟩;rw[Ty]at he;subst he;clear d0 d1;have bf:=ak.ext aj;have bu:=al.ext aj;have HB:=A6 bf;have HE:=A6 (am.trans aj);have c0:=bf.cell 0;have c1:=bf.cell 1;have f0:=bf.frozen 0;have f1:=bf.frozen 1;have d0:=bu.cell 0;have d1:=bu.cell 1;have d2:=bu.cell 2;have d3:=bu.cell 3;simp only[List.getElem?_toArray,List.getElem?_cons_zero,List.getElem?_cons_succ]at c0 c1 d0 d1 d2 d3;clear ak al am aj bu bf;go_wp2_with fail
    all_goals
     obtain⟨c6,c7,hx,ay,bt⟩:=Dk HB.out HE.out (by simp)
     refine bodyPost_ret (by simp[results,Tryz.results146,go_sem,c6,c7];try rfl) rfl ?_
     refine⟨rfl,by first|exact hx _ _|exact HE.out|exact ay _|exact bt _|exact(An.alloc _ _).to_alloc _⟩)
  |(
   guard_hyp N22
   have d0:=al.cell 0;have d1:=al.cell 1;simp only[List.getElem?_toArray,List.getElem?_cons_zero,List.getElem?_cons_succ]at d0 d1;go_enter Tryz.func146,Tryz.ntmps146
   go_wp2_with fail
   refine(H.out _ am).mono ?_
   rintro e w1 ⟨⟨o,hR,he⟩,aj⟩;have HR:=A6 hR;clear hR;rcases o with _|⟨a,i⟩
   ·rw[Nk]at he
    subst he;clear d0 d1;have bf:=ak.ext aj;have bu:=al.ext aj;have HB:=A6 bf;have HE:=A6 (am.trans aj);have c0:=bf.cell 0;have c1:=bf.cell 1;have f0:=bf.frozen 0;have f1:=bf.frozen 1;have d0:=bu.cell 0;have d1:=bu.cell 1;have d2:=bu.cell 2;have d3:=bu.cell 3;simp only[List.getElem?_toArray,List.getElem?_cons_zero,List.getElem?_cons_succ]at c0 c1 d0 d1 d2 d3;clear ak al am aj bu bf;go_wp2_with fail
    all_goals
     obtain⟨c6,c7,hx,ay,bt⟩:=Dk HB.out HE.out (by simp)
     refine bodyPost_ret (by simp[results,Tryz.results146,go_sem,c6,c7];try rfl) rfl ?_
     refine⟨⟨_,HR.out,rfl⟩,by first|exact hx _ _|exact HE.out|exact ay _|exact bt _|exact(An.alloc _ _).to_alloc _⟩
   ·rw[Ty]at he
    subst he;clear d0 d1;have bf:=ak.ext aj;have bu:=al.ext aj;have HB:=A6 bf;have HE:=A6 (am.trans aj);have c0:=bf.cell 0;have c1:=bf.cell 1;have f0:=bf.frozen 0;have f1:=bf.frozen 1;have d0:=bu.cell 0;have d1:=bu.cell 1;have d2:=bu.cell 2;have d3:=bu.cell 3;simp only[List.getElem?_toArray,List.getElem?_cons_zero,List.getElem?_cons_succ]at c0 c1 d0 d1 d2 d3;clear ak al am aj bu bf;go_wp2_with fail
    all_goals
     obtain⟨c6,c7,hx,ay,bt⟩:=Dk HB.out HE.out (by simp)
     refine bodyPost_ret (by simp[results,Tryz.results146,go_sem,c6,c7];try rfl) rfl ?_
     refine⟨⟨_,HR.out,rfl⟩,by first|exact hx _ _|exact HE.out|exact ay _|exact bt _|exact(An.alloc _ _).to_alloc _⟩)
  |(
   (first|guard_hyp N23|guard_hyp N25|guard_hyp N27|guard_hyp N29)
   go_enter Tryz.func145,Tryz.ntmps145
   go_wp2_with fail
   refine(H.out _ am).mono ?_
   rintro e w1 ⟨he,aj⟩;rw[nZ]at he;subst he;have bf:=ak.ext aj;have bu:=al.ext aj;have HB:=A6 bf;have HE:=A6 (am.trans aj);have c0:=bf.cell 0;have c1:=bf.cell 1;have f0:=bf.frozen 0;have f1:=bf.frozen 1;have d0:=bu.cell 0;have d1:=bu.cell 1;have d2:=bu.cell 2;have d3:=bu.cell 3;simp only[List.getElem?_toArray,List.getElem?_cons_zero,List.getElem?_cons_succ]at c0 c1 d0 d1 d2 d3;clear ak al am aj bu bf;go_wp2_with fail
   all_goals
    obtain⟨c6,c7,hx,ay,bt⟩:=Dk HB.out HE.out (by simp)
    refine bodyPost_ret (by simp[results,Tryz.results145,go_sem,c6,c7];try rfl) rfl ?_
    refine⟨rfl,by first|exact hx _ _|exact HE.out|exact ay _|exact bt _|exact(An.alloc _ _).to_alloc _⟩)
  |(
   (first|guard_hyp N24|guard_hyp N26|guard_hyp N28|guard_hyp N30)
   go_enter Tryz.func145,Tryz.ntmps145
   go_wp2_with fail
   refine(H.out _ am).mono ?_
   rintro e w1 ⟨he,aj⟩;rw[nY]at he;subst he;have bf:=ak.ext aj;have bu:=al.ext aj;have HB:=A6 bf;have HE:=A6 (am.trans aj);have c0:=bf.cell 0;have c1:=bf.cell 1;have f0:=bf.frozen 0;have f1:=bf.frozen 1;have d0:=bu.cell 0;have d1:=bu.cell 1;have d2:=bu.cell 2;have d3:=bu.cell 3;simp only[List.getElem?_toArray,List.getElem?_cons_zero,List.getElem?_cons_succ]at c0 c1 d0 d1 d2 d3;clear ak al am aj bu bf;go_wp2_with fail
   all_goals
    obtain⟨c6,c7,hx,ay,bt⟩:=Dk HB.out HE.out (by simp)
    refine bodyPost_ret (by simp[results,Tryz.results145,go_sem,c6,c7];try rfl) rfl ?_
    refine⟨Qj (by omega),by first|exact hx _ _|exact HE.out|exact ay _|exact bt _|exact(An.alloc _ _).to_alloc _⟩)
  |(
   guard_hyp N31
   cases op
   ·by_cases hz:min X (n-1)=k
    ·have HZ:=A6 hz
     have b1:decide (min (X:Int) ((n:Int)-1)=(k:Int))=true:=by simp;omega
     have b2:(min (X:Int) ((n:Int)-1)==(k:Int))=true:=by simp;omega
     rw[if_neg (by simp),if_pos hz]
     clear hz;go_enter Tryz.func171,Tryz.ntmps171
     go_wp2_with fail
     refine(H.out _ am).mono ?_
     rintro e w1 ⟨rfl,aj⟩;have bf:=ak.ext aj;have bu:=al.ext aj;have HB:=A6 bf;have HE:=A6 (am.trans aj);have c0:=bf.cell 0;have c1:=bf.cell 1;have f0:=bf.frozen 0;have f1:=bf.frozen 1;have d0:=bu.cell 0;have d1:=bu.cell 1;have d2:=bu.cell 2;have d3:=bu.cell 3;simp only[List.getElem?_toArray,List.getElem?_cons_zero,List.getElem?_cons_succ]at c0 c1 d0 d1 d2 d3;clear ak al am aj bu bf;go_wp2_with fail
     all_goals first
      |(exfalso;have:=HZ.out;omega)
      |(
       obtain⟨c6,c7,hx,ay,bt⟩:=Dk HB.out HE.out (by simp)
       refine bodyPost_ret (by simp[results,Tryz.results171,go_sem,c6,c7];try rfl) rfl ?_
       refine⟨rfl,by first|exact hx _ _|exact HE.out|exact ay _|exact bt _⟩)
    ·have HZ:=A6 hz
     have b1:(min (X:Int) ((n:Int)-1)==(k:Int))=false:=by simp;omega
     rw[if_neg (by simp),if_neg hz]
     clear hz;go_enter Tryz.func171,Tryz.ntmps171
     go_wp2_with fail
     refine(H.out _ am).mono ?_
     rintro e w1 ⟨rfl,aj⟩;have bf:=ak.ext aj;have bu:=al.ext aj;have HB:=A6 bf;have HE:=A6 (am.trans aj);have c0:=bf.cell 0;have c1:=bf.cell 1;have f0:=bf.frozen 0;have f1:=bf.frozen 1;have d0:=bu.cell 0;have d1:=bu.cell 1;have d2:=bu.cell 2;have d3:=bu.cell 3;simp only[List.getElem?_toArray,List.getElem?_cons_zero,List.getElem?_cons_succ]at c0 c1 d0 d1 d2 d3;clear ak al am aj bu bf;go_wp2_with fail
     all_goals first
      |(exfalso;have:=HZ.out;omega)
      |(
       obtain⟨c6,c7,hx,ay,bt⟩:=Dk HB.out HE.out (by simp)
       refine bodyPost_ret (by simp[results,Tryz.results171,go_sem,c6,c7];try rfl) rfl ?_
       refine⟨Qj (by have:=HZ.out;omega),by first|exact hx _ _|exact HE.out|exact ay _|exact bt _⟩)
   ·rw[if_pos rfl]
    go_enter Tryz.func171,Tryz.ntmps171
    go_wp2_with fail
    refine(H.out _ am).mono ?_
    rintro e w1 ⟨rfl,aj⟩;have bf:=ak.ext aj;have bu:=al.ext aj;have HB:=A6 bf;have HE:=A6 (am.trans aj);have c0:=bf.cell 0;have c1:=bf.cell 1;have f0:=bf.frozen 0;have f1:=bf.frozen 1;have d0:=bu.cell 0;have d1:=bu.cell 1;have d2:=bu.cell 2;have d3:=bu.cell 3;simp only[List.getElem?_toArray,List.getElem?_cons_zero,List.getElem?_cons_succ]at c0 c1 d0 d1 d2 d3;clear ak al am aj bu bf;go_wp2_with fail
    all_goals
     obtain⟨c6,c7,hx,ay,bt⟩:=Dk HB.out HE.out (by simp)
     refine bodyPost_ret (by simp[results,Tryz.results171,go_sem,c6,c7];try rfl) rfl ?_
     refine⟨rfl,by first|exact hx _ _|exact HE.out|exact ay _|exact bt _⟩)
  |(
   guard_hyp N32
   cases op
   ·by_cases hz:X=k
    ·have HZ:=A6 hz
     rw[if_pos ⟨rfl,hz⟩];have b2:((X:Int)==(k:Int))=true:=by simp;omega
     exact I9
    ·have HZ:=A6 hz
     have b1:((X:Int)==(k:Int))=false:=by simp;omega
     rw[if_neg (by simp[hz])]
     exact I9
   ·rw[if_neg (by simp)]
    go_enter Tryz.func172,Tryz.ntmps172
    go_wp2_with fail
    refine(H.out _ am).mono ?_
    rintro e w1 ⟨rfl,aj⟩;have bf:=ak.ext aj;have bu:=al.ext aj;have HB:=A6 bf;have HE:=A6 (am.trans aj);have c0:=bf.cell 0;have c1:=bf.cell 1;have f0:=bf.frozen 0;have f1:=bf.frozen 1;have d0:=bu.cell 0;have d1:=bu.cell 1;have d2:=bu.cell 2;have d3:=bu.cell 3;simp only[List.getElem?_toArray,List.getElem?_cons_zero,List.getElem?_cons_succ]at c0 c1 d0 d1 d2 d3;clear ak al am aj bu bf;go_wp2_with fail
    all_goals
     obtain⟨c6,c7,hx,ay,bt⟩:=Dk HB.out HE.out (by simp)
     refine bodyPost_ret (by simp[results,Tryz.results172,go_sem,c6,c7];try rfl) rfl ?_
     refine⟨rfl,by first|exact hx _ _|exact HE.out|exact ay _|exact bt _⟩)
  |(
   have HB:=A6 ak;have HE:=A6 am;have c0:=ak.cell 0;have c1:=ak.cell 1;have f0:=ak.frozen 0;have f1:=ak.frozen 1;have d0:=al.cell 0;have d1:=al.cell 1;have d2:=al.cell 2;have d3:=al.cell 3;simp only[List.getElem?_toArray,List.getElem?_cons_zero,List.getElem?_cons_succ]at c0 c1 d0 d1 d2 d3;clear ak al am;go_enter Tryz.func146,Tryz.ntmps146
   go_wp2_with fail
   all_goals
    obtain⟨c6,c7,hx,ay,bt⟩:=Dk HB.out HE.out (by simp)
    refine bodyPost_ret (by simp[results,Tryz.results146,go_sem,c6,c7];try rfl) rfl ?_
    refine⟨rfl,by first|exact hx _ _|exact HE.out|exact ay _|exact bt _|exact(An.alloc _ _).to_alloc _⟩)):p:=h
theorem K27 (h:p:=by
 first
  |(
   guard_hyp N1
   have hx:=An.alloc w (.cells #[k1,k2,(0:Int),(85:Int),k5] 62);have hc:=Aq.new w 62 #[.int .i64 k1,.int .i64 k2,.int .i64 0,.int .i64 85,.int .i64 k5])
  |(
   guard_hyp N2
   have hx:=An.alloc w (.cells #[k1,k2,(0:Int),(46:Int),k5] 62);have hc:=Aq.new w 62 #[.int .i64 k1,.int .i64 k2,.int .i64 0,.int .i64 46,.int .i64 k5])
  |(
   guard_hyp N3
   have hx:=An.alloc w (.cells #[k1,k2,k3,k4,k5] 62);have hc:=Aq.new w 62 #[.int .i64 k1,.int .i64 k2,.int .i64 k3,.int .i64 k4,.int .i64 k5])
  |(
   guard_hyp N4
   have hx:=An.alloc w (.cells #[k1,k2,(0:Int),k4,k5] 62);have hc:=Aq.new w 62 #[.int .i64 k1,.int .i64 k2,.int .i64 0,.int .i64 k4,.int .i64 k5])
  |(
   have hx:=An.alloc w (.cells #[k1,k2,(0:Int),(117:Int),k5] 62);have hc:=Aq.new w 62 #[.int .i64 k1,.int .i64 k2,.int .i64 0,.int .i64 117,.int .i64 k5])
 have HC:=A6 (Hc (h.ext hx).ses.dat.here.tr (by omega))
 have d0:=(h.ext hx).ses.blk.cell 0;have H:=A6 h
 first
  |(
   guard_hyp N1
   have HM:Hid (∀wq,An w wq→_):=A6 fun wq he=>nC (h.ext he) (by omega) (by omega) hb (by omega))
  |(
   guard_hyp N2
   have HM:Hid (∀wq,An w wq→_):=A6 fun wq he=>nG (h.ext he) wl hl hb hq hz hD xl hK)
  |(
   guard_hyp N3
   have HM:Hid (∀wq,An w wq→_):=A6 fun wq he=>fR (c:=⟨k1,k2,k3,k4,k5⟩) (h.ext he) wl hl hb (by omega) (hz _)
   unfold Pe at HM)
  |(
   guard_hyp N4
   have HM:Hid (∀wq,An w wq→_):=A6 fun wq he=>fR (c:=⟨k1,k2,0,k4,k5⟩) (h.ext he) wl hl hb (by omega) (hz _)
   unfold Pe at HM)
  |(
   have HM:Hid (∀wq,An w wq→_):=A6 fun wq he=>J1r (h.ext he) hb (by omega))
 clear h;go_enter Tryz.func66,Tryz.ntmps66
 go_upto_region 1 with fail
 first
  |(
   guard_hyp N1
   generalize w.alloc (.cells #[k1,k2,(0:Int),(85:Int),k5] 62)=Wa at *)
  |(
   guard_hyp N2
   generalize w.alloc (.cells #[k1,k2,(0:Int),(46:Int),k5] 62)=Wa at *)
  |(
   guard_hyp N3
   generalize w.alloc (.cells #[k1,k2,k3,k4,k5] 62)=Wa at *)
  |(
   guard_hyp N4
   generalize w.alloc (.cells #[k1,k2,(0:Int),k4,k5] 62)=Wa at *)
  |(
   generalize w.alloc (.cells #[k1,k2,(0:Int),(117:Int),k5] 62)=Wa at *)
 have MF:Wa.cell? ⟨p,0,none⟩=some (.pointer v.tr):=d0;clear d0;go_wp2_with fail
 refine HC.out.mono ?_
 rintro e w1 ⟨_,rfl,⟨A,k,rfl,hA⟩,he⟩;have ay:=hx.trans he;have bh:=hc.ext he;have g0:w1.cell? ⟨w,0,none⟩=some (.int .i64 k1):=bh.cell 0;have g1:w1.cell? ⟨w,1,none⟩=some (.int .i64 k2):=bh.cell 1
 first
  |(
   guard_hyp N1
   have g2:w1.cell? ⟨w,2,none⟩=some (.int .i64 0):=bh.cell 2;have g3:w1.cell? ⟨w,3,none⟩=some (.int .i64 85):=bh.cell 3)
  |(
   guard_hyp N2
   have g2:w1.cell? ⟨w,2,none⟩=some (.int .i64 0):=bh.cell 2;have g3:w1.cell? ⟨w,3,none⟩=some (.int .i64 46):=bh.cell 3)
  |(
   guard_hyp N3
   have g2:w1.cell? ⟨w,2,none⟩=some (.int .i64 k3):=bh.cell 2;have g3:w1.cell? ⟨w,3,none⟩=some (.int .i64 k4):=bh.cell 3)
  |(
   guard_hyp N4
   have g2:w1.cell? ⟨w,2,none⟩=some (.int .i64 0):=bh.cell 2;have g3:w1.cell? ⟨w,3,none⟩=some (.int .i64 k4):=bh.cell 3)
  |(
   have g2:w1.cell? ⟨w,2,none⟩=some (.int .i64 0):=bh.cell 2;have g3:w1.cell? ⟨w,3,none⟩=some (.int .i64 117):=bh.cell 3)
 have g4:w1.cell? ⟨w,4,none⟩=some (.int .i64 k5):=bh.cell 4;have jl:=A6 ay;have jt:=A6 bh;have GG:Hid (∀s' w',C6 p w1 col s' w'→C6 p w col s' w'):=A6 fun s' w' hd=>C6.trans ⟨jl.out.alt _,fun _ _ h=>h,fun _ _ h=>h⟩ hd
 clear hx hc MF he HC ay bh;go_wp2_with fail
 refine(HM.out w1 jl.out).mono ?_
 first
  |(
   guard_hyp N3
   rintro e w2 hd;have SA:∃b:Bool,e=.returned (.bool b)∧C6 p w1 col (doS s ⟨k1,k2,k3,k4,k5⟩) w2:=by
    exact I63
   clear hd;obtain⟨b,rfl,vm⟩:=SA;have HR:=A6 (GG.out _ _ vm);clear vm HM)
  |(
   guard_hyp N4
   rintro e w2 hd;have SA:∃b:Bool,e=.returned (.bool b)∧C6 p w1 col (doS s ⟨k1,k2,0,k4,k5⟩) w2:=by
    exact I63
   clear hd;obtain⟨b,rfl,vm⟩:=SA;have HR:=A6 (GG.out _ _ vm);clear vm HM)
  |(
   rintro e w2 ⟨rfl,hd⟩;have HR:=A6 (GG.out _ _ hd);clear hd HM)
 go_wp2_with fail
 first
  |(
   guard_hyp N3
   refine bodyPost_ret (results_none rfl _ _ _) rfl ⟨rfl,HR.out⟩)
  |(
   go_end0
   exact⟨rfl,HR.out⟩)):p:=h
theorem K28 (h:p:=by
 first
  |(
   guard_hyp N1
   have aw:=hl.ncap;have aq:=hl.nmax)
  |skip
 unfold maxLen at aq;obtain⟨W,hW,hx,b3,b6⟩:∃W,W=(w.alloc (.cells #[.slice A n c,a] 32)).alloc (.cells #[(),(0:Int)] 32)∧An w W∧
  Aq W w.heap.size 32 #[.slice A n c,.int .i64 (a:Int)]∧Aq W (w.heap.size+1) 32 #[.slice none 0 0,.int .i64 0]:=
  ⟨_,rfl,(An.alloc _ _).to_alloc _,(Aq.new w _ _).ext (An.alloc _ _),by
   have h:=Aq.new (w.alloc (.cells #[.slice A n c,a] 32)) 32 #[.slice none 0 0,.int .i64 0]
   rwa[World.size_alloc]at h⟩
 have t1:decide ((200:Int)<(n:Int))=false:=by simp;omega
 have t3:((a:Int)<0)=False:=by simp
 have t4:decide (n<a)=false:=by simp;omega
 have t5:decide ((n:Int)<(a:Int))=false:=by simp;omega
 first
  |(
   guard_hyp N1
   have t7:((a:Int)==0)=false:=by simp;omega
   have kp:Hid (((a-1:Nat):Int)=(a:Int)-1):=A6 (by omega)
   have HC:Hid (∀wx,An w wx→_):=A6 fun wx he=>Dj (hl.ext he) hA (show n*8≤140737488355328 by omega))
  |skip
 obtain⟨c0,c1⟩:=Lw b3
 first
  |(
   guard_hyp N1
   clear hl h0;rcases hk with rfl|rfl
   all_goals
    go_enter Tryz.func85,Tryz.ntmps85
    go_upto_region 1 with fail
    rw[←hW];clear hW;go_upto_region 6 with fail
    go_quiet (fail)
    have am:An w (W.drewN nq):=hx.trans (An.drewN W nq);have om:=b3.ext (An.drewN W nq);have fb:=b6.ext (An.drewN W nq);clear c0 c1 b3 b6 hx;generalize W.drewN nq=V at*;obtain⟨e0,e1⟩:=Lw om;have hz:w.heap.size+1<V.heap.size:=fb.lt;go_wp2_with fail
    refine(HC.out _ am).mono ?_
    rintro e V2 ⟨B,d,rfl,ho,hB,hE⟩;replace fb:=fb.ext hE;obtain⟨g0,g1⟩:=Lw fb;obtain⟨f0,f1⟩:=Se fb;have HF:=A6 (Qe fb (.slice B n d) (.int .i64 ((a:Int)-1)));have HO:=A6 (V8 ho hz (.slice B n d) (.int .i64 ((a:Int)-1)));have HX:=A6 (Qd (am.trans hE) (show w.heap.size≤w.heap.size+1 by omega) (.slice B n d) (.int .i64 ((a:Int)-1)))
    have bm:=am.hsize;unfold xR at HF HX HO;clear om fb am e0 e1 HC ho hE hB;go_wp2_with fail
    have hp:kG l (a-1) w (.returned (.tuple #[.agg #[.slice B n d,.int .i64 ((a:Int)-1)],(0:Int)])) _:=⟨HX.out,B,n,d,by rw[kp.out],Bd.lower HO.out bm⟩
    refine bodyPost_ret ?_ rfl hp
    exact Gv rfl _ _ (w.heap.size+1) 32 _ _ _ _ rfl rfl HF.out Tryz.underlying32 rfl (Ql rfl))
  |(
   rcases hc with⟨⟨h1,h2⟩,rfl,h3⟩|⟨⟨h1,h2⟩,rfl,h3,h4⟩|⟨⟨h1,h2⟩,rfl⟩|⟨⟨h1,h2⟩,rfl⟩|⟨rfl,h3,rfl⟩|⟨rfl,h3,rfl⟩|⟨rfl,h3,rfl⟩|⟨rfl,h3,rfl⟩|⟨rfl,h3,rfl⟩|⟨rfl,h3,rfl⟩|⟨rfl,h3,rfl⟩|⟨rfl,h3,rfl⟩
   all_goals
    try(have t6:(k !=127)=true:=by simpa using h2)
    try(have t2:((n:Int)==200)=true:=by have:=h3;simp;omega)
    try(have t7:((a:Int)==0)=true:=by have:=h3;simp;omega)
    try(have t8:decide (a<n)=false:=by have:=h4;simp;omega)
    try(have q1:decide ((32:Int)≤k)=false:=by have:=h1.1;simp;omega)
    try(have q2:(k !=8)=true:=by simpa using h1.2.1)
    try(have q3:(k !=21)=true:=by simpa using h1.2.2)
    try(have q4:(k !=23)=true:=by simpa using h2)
    try(have q5:(k !=127)=true:=by have:=h1.1;simp;omega)
    try clear h4
    try clear h3
    go_enter Tryz.func85,Tryz.ntmps85
    go_upto_region 1 with fail
    rw[←hW];clear hW;go_upto_region 6 with fail
    go_quiet (fail)
    have am:An w (W.drewN nq):=hx.trans (An.drewN W nq);have om:=b3.ext (An.drewN W nq);have fb:=b6.ext (An.drewN W nq);clear c0 c1 b3 b6 hx;generalize W.drewN nq=V at*;obtain⟨e0,e1⟩:=Lw om
   iterate 2
    focus
     go_upto_region 16 with fail
     replace fb:=fb.ext (An.alloc V (.cells #[k] 3));replace am:=am.to_alloc (.cells #[k] 3);clear om e0 e1;generalize V.alloc (.cells #[k] 3)=V2 at*;obtain⟨g0,g1⟩:=Lw fb;obtain⟨f0,f1⟩:=Se fb;have HF:=A6 (Qe fb (.slice none 0 0) (.int .i64 0));have HX:=A6 (Qd am (show w.heap.size≤w.heap.size+1 by omega) (.slice none 0 0) (.int .i64 0))
     unfold xR at HF HX;clear fb am;go_wp2_with fail
     refine bodyPost_ret (Gv rfl _ _ (w.heap.size+1) 32 _ _ _ _ rfl rfl HF.out Tryz.underlying32 rfl (Ql rfl)) rfl ⟨HX.out,_,?_,rfl⟩
     decide
   all_goals
    obtain⟨g0,g1⟩:=Lw fb;obtain⟨f0,f1⟩:=Se fb;have HF:=A6 (Qe fb (.slice none 0 0) (.int .i64 0));have HX:=A6 (Qd am (show w.heap.size≤w.heap.size+1 by omega) (.slice none 0 0) (.int .i64 0))
    unfold xR at HF HX;clear om fb am;go_wp2_with fail
    refine bodyPost_ret (Gv rfl _ _ (w.heap.size+1) 32 _ _ _ _ rfl rfl HF.out Tryz.underlying32 rfl (Ql rfl)) rfl ⟨HX.out,_,?_,rfl⟩
    decide)):p:=h
theorem K29 (h:p:=by
 first
  |(
   guard_hyp N1
   obtain rfl:i = -1:=by have:=RP.out;omega
   have GJ:Hid (xS ls (Lb ⟨ls,mo,(a:Int),sl,pl,ol⟩ p) a=none):=A6 (by rw[qu.out,xS])
   clear RP qu)
  |(
   have GJ:Hid (xT ls (Lb ⟨ls,mo,(a:Int),sl,pl,ol⟩ p) n (n-(a+1))=none):=A6 (by rw[qu.out,show n-j=0 by omega,xT])
   have ku:n≤j:=by omega
   have hd:decide (j<n)=false:=by simp;omega
   have SA:decide ((j:Int)<(n:Int))=false:=by simp;omega
   clear ae qu)
 have DE:=A6 (ay.out.trans ld.out);have B3r:=A6 (Aq.ext B3.out ld.out);have B6r:=A6 (Aq.ext B6.out ld.out);obtain⟨k0,k1,k2,k3,k4,k5⟩:=Cu B3r.out;obtain⟨d0,d1,d2,d3,d4,d5⟩:=Cu B6r.out;obtain⟨f0,f1,f2,f3,f4,f5⟩:=Et B6r.out;have HX:=A6 (Fo DE.out (show w.heap.size≤w.heap.size+1 by omega) (.slice none 0 0) (.int .i64 0) (.int .i64 0) (.slice none 0 0) (.slice none 0 0) (.bool false))
 have cn:=A6 (Fp B6r.out (.slice none 0 0) (.int .i64 0) (.int .i64 0) (.slice none 0 0) (.slice none 0 0) (.bool false));unfold Rr at HX cn
 first
  |(
   guard_hyp N1
   have du:Hid (∀k,¬Y7 ⟨ls,mo,(a:Int),sl,pl,ol⟩ now p true k):=A6 (fun k hh=>by
    have h1:=hh.2.2.2;unfold cA at h1;simp only[if_true,Int.toNat_natCast]at h1;rw[GJ.out]at h1;cases h1))
  |(
   have du:Hid (∀k,¬Y7 ⟨ls,mo,(a:Int),sl,pl,ol⟩ now p false k):=A6 (fun k hh=>by
    have h1:=hh.2.2.2;unfold cA at h1;simp only[Bool.false_eq_true,if_false,Int.toNat_natCast]at h1;rw[HN.out,GJ.out]at h1;cases h1))
 go_wp2_with fail
 refine bodyPost_ret (v:=.tuple #[.agg Eb,(),(5:Int)]) ?_ rfl ⟨HX.out,.inr ⟨du.out,5,rfl,by omega⟩⟩
 exact Ej rfl _ _ (w.heap.size+1) 94 _ _ _ _ _ rfl rfl rfl cn.out Tryz.underlying94 rfl (Fm rfl)):p:=h
theorem xV (h:p:=by
 obtain⟨i0,hi,bm,bz,az⟩:=info_parts Cd;have HT:=A6 (J1x (k:=u) h hb hB hx hg hm hj (by omega) (by omega))
 first
  |(
   guard_hyp N1
   have ab:Hid (Dt b j u=((Jl b j u).1,(Jl b j u).2++[11])):=A6 rfl)
  |(
   have dw:=hb.ncap;have wn:=hb.nmax;unfold maxLen at wn;have ab:Hid (Dw b j u v=(v,(Jl b j u).2++(b.drop u).take (v-u))):=A6 rfl)
 have MR:(Jl b j u).2.length≤900121:=by
  have h1:=Tq (b:=b) (x:=j.1) (y:=u) (by omega) (by omega)
  show(j.2++Gn b j.1 u).length≤_
  rw[List.length_append];omega
 first
  |guard_hyp N1
  |(
   have hcut:=Wj B m d u v AH (by omega)
   have HR:=A6 (hb.cutA AH hv))
 have HX:=A6 hx;clear h hb hB hx
 first
  |guard_hyp N1
  |(
   have ax:=And.intro hcut HR;clear hcut HR
   revert ax ab
   have AZ:v-u≤120:=by omega
   revert AZ
   generalize (b.drop u).take (v-u)=z;generalize cutA B d u=D;generalize v-u=p;generalize d-u=r';intro AZ ab;rintro⟨hcut,HR⟩)
 revert HT MR ab
 generalize Jl b j u=j1
 first
  |(
   guard_hyp N1
   intro HT ab MR)
  |(
   intro HT MR ab)
 obtain⟨x,sg⟩:=j1;have MR:sg.length≤900121:=MR
 first
  |(
   guard_hyp N1
   go_enter Tryz.func106,Tryz.ntmps106)
  |(
   go_enter Tryz.func105,Tryz.ntmps105)
 go_wp2_with fail
 refine HT.out.mono ?_
 rintro e w1 ⟨rfl,hJ,hK⟩;clear HT;obtain⟨S,q,r,oy,ac⟩:=hJ;have oy:Aq w1 g 178 #[.slice B m d,.int .i64 (x:Int),.slice S q r]:=oy;have ac:Ba w1 (g+1) S q r sg:=ac;have hq:q≤1000000:=by have:sg.length=q:=(Ba.ints ac).len;omega
 have rz:=oy.lt;have ay:=hK w0 HX.out hg;have JQ:=A6 oy
 first
  |guard_hyp N1
  |(
   have xm:=Ba.ext ac (An.drew w1);have rg:=(HR.out.ext ay).ext (An.drew w1);have LA:=rg.one;have MS:=A6 LA;have fj:=ay.to_drew;have dn:g+1≤w1.drew.heap.size:=rz)
 obtain⟨c0,c1,c2⟩:=Mi oy
 first
  |(
   guard_hyp N1
   have c2':(w1.alloc (.cells #[(11:Int)] 3)).cell? ⟨g,2,none⟩=some (.slice S q r):=(An.alloc w1 _).cell c2)
  |skip
 have SB:Hid (∀k,(Value.slice S q r).ownBlock=some k→g+1≤k):=A6 fun k hk=>(Bd.blk ac k hk).1
 have HK:=A6 hK;have JB:w0.heap.size≤g+1:=by omega
 first
  |(
   guard_hyp N1
   have al:q+1≤maxLen:=by unfold maxLen;omega
   have ak:(q+1)*8≤140737488355328:=by omega
   clear oy hK HX;go_wp2_with (at_builtin;refine C9 rfl (.tmp 12) (.tmp 13) 25 rfl w0 (g+1) 3 i0 _ 1 8 Tryz.underlying25 hi bm bz az rfl (by decide) S q r _ rfl ac #[(11:Int)] rfl (by simp[Value.oneCell']) rfl al ak ay JB rz ?_)
   intro S2 r2 w2 db av cf bt;have iy:=JQ.out.grown av (fun e=>by have:=SB.out g e.symm;omega)
   obtain⟨e0,e1,e2⟩:=Mi iy;have f2:=iy.frozen 2;have BG:Hid (Dg w (w2.setCell ⟨g,2,none⟩ (.slice S2 (q+1) r2)) g):=A6 (HK.out.trans ((show Dg w1 w2 g from fun w9 h9 h8=>An.grown h9 av ac (by omega)).trans Dg.set))
   have ir:Hid (Aq (w2.setCell ⟨g,2,none⟩ (.slice S2 (q+1) r2)) g 178 #[.slice B m d,.int .i64 (x:Int),.slice S2 (q+1) r2]):=A6 (iy.set_ 2 (.slice S2 (q+1) r2));have et:=Bd.setCell db (p:=⟨g,2,none⟩) (show g<g+1 by omega) (.slice S2 (q+1) r2)
   have cv:Hid (Ba (w2.setCell ⟨g,2,none⟩ (.slice S2 (q+1) r2)) (g+1) S2 (q+1) r2 (sg++[11])):=A6 (by simpa[Ba]using et)
   clear db av cf bt iy e0 e1 et ac ay)
  |(
   have al:q+p≤maxLen:=by unfold maxLen;omega
   have ak:(q+p)*8≤140737488355328:=by omega
   clear oy ac ay hK HX HR LA)
 go_wp2_with fail
 first
  |(
   guard_hyp N1
   go_ret
   exact⟨rfl,by rw[ab.out];exact⟨S2,_,r2,ir.out,cv.out⟩,BG.out⟩)
  |(
   go_region_law (first
    |(
     refine So rfl (.tmp 14) (.tmp 21) 25 rfl w0 (g+1) 3 i0 _ 1 8 Tryz.underlying25 hi bm bz az rfl (by decide) S q r _ rfl xm D p r' _ rfl rg MS.out al ak fj JB dn ?_
     intro S2 r2 w2 db av cf bt;have iy:=(JQ.out.ext (An.drew w1)).grown av (fun e=>by have:=SB.out g e.symm;omega)
     obtain⟨e0,e1,e2⟩:=Mi iy;have f2:=iy.frozen 2;have MT:Hid (Dg w w2 g):=A6 (HK.out.trans (fun w9 h9 h8=>An.grown (h9.to_drew) av xm (by omega)))))
   all_goals
    have xn:Aq (w2.setCell ⟨g,2,none⟩ (.slice S2 (q+p) r2)) g 178 #[.slice B m d,.int .i64 (x:Int),.slice S2 (q+p) r2]:=iy.set_ 2 (.slice S2 (q+p) r2);have et:=Bd.setCell db (p:=⟨g,2,none⟩) (show g<g+1 by omega) (.slice S2 (q+p) r2)
    have BG:Hid (Dg w (w2.setCell ⟨g,2,none⟩ (.slice S2 (q+p) r2)) g):=A6 (MT.out.trans Dg.set);have cv:Hid (Ba (w2.setCell ⟨g,2,none⟩ (.slice S2 (q+p) r2)) (g+1) S2 (q+p) r2 (sg++z)):=A6 (by simpa[Ba]using et)
    have ir:=A6 xn;clear db av cf bt iy e0 e1 e2 f2 MT et c0 c1 c2 JQ xm rg MS fj dn xn
    revert BG cv ir
    generalize w2.setCell ⟨g,2,none⟩ (.slice S2 (q+p) r2)=w3;intro BG cv ir;have f1:=ir.out.frozen 1;obtain⟨e0,e1,e2⟩:=Mi ir.out;have xo:Hid (Aq (w3.setCell ⟨g,1,none⟩ (.int .i64 (v:Int))) g 178 #[.slice B m d,.int .i64 (v:Int),.slice S2 (q+p) r2]):=A6 (ir.out.set_ 1 _);have fd:=A6 (Bd.setCell cv.out (p:=⟨g,1,none⟩) (show g<g+1 by omega) (.int .i64 (v:Int)))
    go_wp2_with fail
    go_ret
    exact⟨rfl,by rw[ab.out];exact⟨S2,_,r2,xo.out,fd.out⟩,BG.out.trans Dg.set⟩)):p:=h
theorem Td (h:p:=by
 first
  |(
   guard_hyp N1
   by_cases dy:n≤k)
  |(
   by_cases dy:n-1≤k)
 ·first
   |(
    guard_hyp N1
    rw[show(if(if true=true then n else n-1)≤k then(none:Option (Nat×Bool))else some (min (if true=true then n else n-1) (k+g),false))=none by simp[dy],Nk])
   |(
    rw[show(if(if false=true then n else n-1)≤k then(none:Option (Nat×Bool))else some (min (if false=true then n else n-1) (k+g),false))=none by simp[dy],Nk])
  go_enter Tryz.func168,Tryz.ntmps168
  go_wp2_with fail
  all_goals
   obtain⟨c6,c7,hx,ay,bt⟩:=Dk HB.out am (by simp)
   refine bodyPost_ret (by simp[results,Tryz.results168,go_sem,c6,c7];try rfl) rfl ?_
   refine⟨rfl,by first|exact hx _ _|exact am|exact ay _|exact bt _|exact(An.alloc _ _).to_alloc _⟩
 ·have HL:=A6 dy
  first
   |(
    guard_hyp N1
    rw[show(if(if true=true then n else n-1)≤k then(none:Option (Nat×Bool))else some (min (if true=true then n else n-1) (k+g),false))=some (min (n) (k+g),false)by simp;omega])
   |(
    rw[show(if(if false=true then n else n-1)≤k then(none:Option (Nat×Bool))else some (min (if false=true then n else n-1) (k+g),false))=some (min (n-1) (k+g),false)by simp;omega])
  go_enter Tryz.func168,Tryz.ntmps168
  go_wp2_with fail
  all_goals
   obtain⟨c6,c7,hx,ay,bt⟩:=Dk HB.out am (by simp)
   refine bodyPost_ret (by simp[results,Tryz.results168,go_sem,c6,c7];try rfl) rfl ?_
   refine⟨Qj (by have:=HL.out;omega),by first|exact hx _ _|exact am|exact ay _|exact bt _|exact(An.alloc _ _).to_alloc _⟩):p:=h
theorem K32 (h:p:=by
 obtain⟨h1,h2,h3,h4,h5,hr,ho,hw⟩:=Gf h;have HL:=A6 (Qm r);have HO:=A6 (Ml o);have hx:=An.alloc w (.cells #[f,r,o,s,wt] 34);clear h;unfold Kb;simp only;rcases hr with rfl|⟨mm,hr⟩
 ·rcases ho with rfl|⟨qn,ho⟩
  ·have gp:s=0:=by have h6:=h5 rfl;omega
   subst gp;clear hw;subst kj;exact ckW hx HL HO
  ·have ke:(o !=0)=true:=by simpa using qn
   have le:(o==0)=false:=by simpa using qn
   rw[ho]at HO;exfalso;revert hw;subst kj;simp[Dc,qn]
 ·have VX:(r !=0)=true:=by simpa using mm
  have hrc:(r==0)=false:=by simpa using mm
  rw[hr]at HL;rcases ho with rfl|⟨qn,ho⟩
  first
   |(
    guard_hyp N1
    ·have gp:s=0:=by have h6:=h5 rfl;omega
     subst gp;exfalso;revert hw;subst kj;simp[Dc,mm])
   |(
    ·have gp:s=0:=by have h6:=h5 rfl;omega
     subst gp;clear hw;subst kj;exact ckW hx HL HO)
  ·have ke:(o !=0)=true:=by simpa using qn
   have le:(o==0)=false:=by simpa using qn
   rw[ho]at HO;exfalso;revert hw;subst kj;simp[Dc,qn,mm]):p:=h
theorem K33 (h:p:=by
 first
  |(
   guard_hyp N1
   have ab:=hl.len;obtain⟨i0,hi,bm,bz,az⟩:=info_parts U4;obtain⟨W,hW,hx,hz,b2,b3,b4,b5⟩:=Y4 w (.slice A (n+1) c) (.slice none 0 0) (.pointer q) (.int .i64 a);have HC:=A6 (Xy (hl.ext hx) h1 (fun e=>by subst e;have:=hl.at_ (k:=0) (by omega);obtain⟨_,h,_⟩:=this;cases h) (by omega))
   have HX:=A6 hx;have HB:=A6 (And.intro b3 (And.intro b4 b5));have c20:W.cell? ⟨w,0,none⟩=some (.slice A (n+1) c):=b2.cell 0)
  |(
   obtain⟨W,hW,hx,hz,b2,b3,b4,b5⟩:=Y4 w (.slice A 0 c) (.slice none 0 0) (.pointer q) (.int .i64 a);have HC:Hid (∀wq,Calls Tryz.prog 165 #[.agg #[.slice A 0 c,()]] wq fun e w'=>∃v,e=.returned v∧(∃B d,v=.agg #[.slice B 0 d,()])∧An wq w'):=
    A6 fun wq=>(Xy (xs:=[]) ⟨rfl,Nat.zero_le _,hc,fun h=>absurd h (Nat.lt_irrefl 0)⟩ nofun hA (by omega)).mono fun e w' ⟨v,h1,⟨B,d,h2,_⟩,h3⟩=>⟨v,h1,⟨B,d,h2⟩,h3⟩
   have c20:W.cell? ⟨w,0,none⟩=some (.slice A 0 c):=b2.cell 0)
 have c21:W.cell? ⟨w,1,none⟩=some (.slice none 0 0):=b2.cell 1
 first
  |(
   guard_hyp N1
   have K1:=A6 k1;have K2:=A6 k2;clear hl h1 hx b2 b3 b4 b5)
  |(
   clear hA)
 go_enter Tryz.func140,Tryz.ntmps140
 go_upto_region 1 with fail
 rw[←hW];clear hW
 first
  |(
   guard_hyp N1
   go_wp2_with fail
   refine HC.out.mono ?_
   rintro e w1 ⟨_,rfl,⟨B,d,rfl,oB⟩,he⟩;have z0:=he.hsize;obtain⟨W2,JR,x2,z2,b7,b8⟩:∃W2,W2=(w1.alloc (.cells #[.slice B (n+1) d,()] 97)).alloc (.cells #[.pointer none,(0:Int)] 92)∧An w1 W2∧W2.heap.size=w1.heap.size+2∧
    Aq W2 w1.heap.size 97 #[.slice B (n+1) d,.slice none 0 0]∧Aq W2 (w1.heap.size+1) 92 #[.pointer none,.int .i64 0]:=
    ⟨_,rfl,(An.alloc _ _).to_alloc _,by simp,(Aq.new w1 _ _).ext (An.alloc _ _),by
     have h:=Aq.new (w1.alloc (.cells #[.slice B (n+1) d,()] 97)) 92 #[.pointer none,.int .i64 0]
     rwa[World.size_alloc]at h⟩
   have HN:=A6 (iK ((Bd.rd oB).ext x2) K1.out K2.out);go_upto_region 5 with fail
   rw[←JR];clear JR;have c70:W2.cell? ⟨w1,0,none⟩=some (.slice B (n+1) d):=b7.cell 0;have n1:¬w1.heap.size=w.heap.size:=by omega
   go_wp2_with fail
   refine HN.out.mono ?_
   rintro e w3 ⟨rfl,h3⟩;have MU:=b7.ext h3;have JS:=b8.ext h3;have e80:=JS.cell 0;have e81:=JS.cell 1;have e70:=MU.cell 0;have e71:=MU.cell 1;have f80:=JS.frozen 0;have f81:=JS.frozen 1;have f70:=MU.frozen 0;simp only[List.getElem?_toArray,List.getElem?_cons_zero,List.getElem?_cons_succ]at e80 e81 e70 e71;go_upto_region 6 with fail
   have MV:Aq (((w3.setCell ⟨w1.heap.size+1,0,none⟩ (.pointer r)).setCell ⟨w1.heap.size+1,1,none⟩ b).setCell ⟨w1,0,none⟩ (.slice B n d)) (w1.heap.size+1) 92 #[.pointer r,.int .i64 b]:=Bn (Ee JS _ _) (by omega) 0 _
   have BH:Aq (((w3.setCell ⟨w1.heap.size+1,0,none⟩ (.pointer r)).setCell ⟨w1.heap.size+1,1,none⟩ b).setCell ⟨w1,0,none⟩ (.slice B n d)) w1.heap.size 97 #[.slice B n d,.slice none 0 0]:=(Bn (Bn MU (g':=w1.heap.size+1) (by omega) 0 _) (g':=w1.heap.size+1) (by omega) 1 _).set_ 0 _
   have hxw:An w1 w3:=x2.trans h3;have VY:An W (((w3.setCell ⟨w1.heap.size+1,0,none⟩ (.pointer r)).setCell ⟨w1.heap.size+1,1,none⟩ b).setCell ⟨w1,0,none⟩ (.slice B n d)):=(Ed (he.trans hxw) (show W.heap.size≤w1.heap.size+1 by omega) _ _).setCell (p:=⟨w1,0,none⟩) z0 _
   have oB4:Bd (((w3.setCell ⟨w1.heap.size+1,0,none⟩ (.pointer r)).setCell ⟨w1.heap.size+1,1,none⟩ b).setCell ⟨w1,0,none⟩ (.slice B n d)) W.heap.size 92 2 B (n+1) d xs:=Bd.same (Bd.ext oB hxw) fun k hk=>by
    have:=(Bd.blk oB k hk).2;rw[Cs (show k≠w1.heap.size by omega),Cs (show k≠w1.heap.size+1 by omega),Cs (show k≠w1.heap.size+1 by omega)]
   have gb:=fun k (hk:(Value.slice B (n+1) d).ownBlock=some k)=>Bd.blk oB k hk
   clear e80 e81 e70 e71 f80 f81 f70 b7 b8 MU JS oB HN c70;generalize ((w3.setCell ⟨w1.heap.size+1,0,none⟩ (.pointer r)).setCell ⟨w1.heap.size+1,1,none⟩ b).setCell ⟨w1,0,none⟩ (.slice B n d)=W4 at*;have c70:=BH.cell 0;have c71:=BH.cell 1;have b3:=HB.out.1.ext VY;have c30:=b3.cell 0;have c31:=b3.cell 1;simp only[List.getElem?_toArray,List.getElem?_cons_zero,List.getElem?_cons_succ]at c70 c71 c30 c31;have m8:=qL W4;go_wp2_with (at_builtin;refine C9 rfl (.tmp 26) (.tmp 28) 95 rfl (J2e W4) 0 92 i0 (.agg #[.pointer none,(0:Int)]) 2 16 Tryz.underlying95 hi bm bz az rfl (by decide) none 0 0 [] rfl (Bd.nil _ _ _ _) #[.pointer q,a] rfl ?_ rfl ?_ ?_ m8 (Nat.le_refl _) (Nat.zero_le _) ?_)
   ·exact⟨rfl,rfl⟩
   ·unfold maxLen;omega
   ·omega
   intro F2 g2 w5 oF5 av _ _;have nv:An W4 w5:=⟨av.os,av.tape,av.output,av.size,fun k hk=>av.block k hk nofun⟩
   have b7:=BH.ext nv;have b8:=MV.ext nv;have g70:=b7.cell 0;have g71:=b7.cell 1;have f71:=b7.frozen 1;simp only[List.getElem?_toArray,List.getElem?_cons_zero,List.getElem?_cons_succ]at g70 g71;go_upto_region 7 with fail
   have b7w:=b7.set_ 1 (.slice F2 1 g2);have b8w:=Bn (g':=w1.heap.size) b8 (by omega) 1 (.slice F2 1 g2)
   have oBw:Bd (w5.setCell ⟨w1,1,none⟩ (.slice F2 1 g2)) W.heap.size 92 2 B (n+1) d xs:=Bd.same (Bd.ext oB4 nv) fun k hk=>Cs (show k≠w1.heap.size by have:=(gb k hk).2;omega)
   have GK:=(VY.trans nv).setCell (p:=⟨w1,1,none⟩) z0 (.slice F2 1 g2);clear g70 g71 f71 b7 b8 c70 c71 c30 c31 av oF5 BH MV oB4 nv VY m8;generalize w5.setCell ⟨w1,1,none⟩ (.slice F2 1 g2)=W6 at*;have BI:Hid (An w W6.drew∧Aq W6.drew w1.heap.size 97 #[.slice B n d,.slice F2 1 g2]∧Aq W6.drew (w1.heap.size+1) 92 #[.pointer r,.int .i64 b]):=A6 ⟨(HX.out.trans GK).to_drew,b7w,b8w⟩;have b4:Aq W6.drew (w.heap.size+1+1) 97 #[.slice none 0 0,.slice none 0 0]:=HB.out.2.1.ext (GK.to_drew);have b5:Aq W6.drew (w.heap.size+1+1+1) 92 #[.pointer none,.int .i64 0]:=HB.out.2.2.ext (GK.to_drew);have oB6:Bd W6.drew W.heap.size 92 2 B (n+1) d xs:=oBw;refine wp_region_held_drew (S:=fun w'=>An w w'∧Aq w' w1.heap.size 97 #[.slice B n d,.slice F2 1 g2]∧Aq w' (w1.heap.size+1) 92 #[.pointer r,.int .i64 b]) (by kernel_rfl) BI.out (fun hS=>?_)
   refine Ga (i:=0) (v:=(.agg #[.slice B n d,.slice F2 1 g2])) rfl (fun w' ag=>by have e0:=ag.2.1.cell 0;have e1:=ag.2.1.cell 1;simp only[List.getElem?_toArray,List.getElem?_cons_zero,List.getElem?_cons_succ]at e0 e1;go_simp) hS ?_
   refine Ga (i:=1) (v:=(.agg #[.pointer r,b])) rfl (fun w' ag=>by have e0:=ag.2.2.cell 0;have e1:=ag.2.2.cell 1;simp only[List.getElem?_toArray,List.getElem?_cons_zero,List.getElem?_cons_succ]at e0 e1;go_simp) hS ?_
   clear BI b7w b8w oBw GK;generalize W6.drew=cur at *)
  |(
   go_upto_region 2 with fail
   have BI:Hid (An w W.drew∧Aq W.drew w.heap.size 97 #[.slice A 0 c,.slice none 0 0]∧Aq W.drew (w.heap.size+1) 92 #[.pointer q,.int .i64 a]):=A6 ⟨hx.to_drew,b2,b3⟩;have b4:Aq W.drew (w.heap.size+1+1) 97 #[.slice none 0 0,.slice none 0 0]:=b4;have b5:Aq W.drew (w.heap.size+1+1+1) 92 #[.pointer none,.int .i64 0]:=b5;refine wp_region_held_drew (S:=fun w'=>An w w'∧Aq w' w.heap.size 97 #[.slice A 0 c,.slice none 0 0]∧Aq w' (w.heap.size+1) 92 #[.pointer q,.int .i64 a]) (by kernel_rfl) BI.out (fun hS=>?_)
   refine Ga (i:=0) (v:=(.agg #[.slice A 0 c,()])) rfl (fun w' ag=>by have e0:=ag.2.1.cell 0;have e1:=ag.2.1.cell 1;simp only[List.getElem?_toArray,List.getElem?_cons_zero,List.getElem?_cons_succ]at e0 e1;go_simp) hS ?_
   refine Ga (i:=2) (v:=(.agg #[.pointer q,a])) rfl (fun w' ag=>by have e0:=ag.2.2.cell 0;have e1:=ag.2.2.cell 1;simp only[List.getElem?_toArray,List.getElem?_cons_zero,List.getElem?_cons_succ]at e0 e1;go_simp) hS ?_
   clear BI b2 b3 hx c20 c21;generalize W.drew=cur at*;refine wpAnyH_ready (rs:=[1]) (by decide +kernel) (by simp) (AllReadyH.cons rfl (fun K hK=>?_) AllReadyH.nil)
   refine Cl rfl 165 #[.agg #[.slice A 0 c,()]] rfl (by kernel_rfl) (fun v w'=>∃B d,v=.agg #[.slice B 0 d,()]) ((HC.out _).mono fun e w' ⟨v,h1,h2,h3⟩=>⟨v,h1,h2,h3⟩) ?_
   rintro v w2 ⟨B,d,rfl⟩ hE;refine hK.out _ _ ⟨hS.1.trans hE,hS.2.1.ext hE,hS.2.2.ext hE⟩ (fun ao=>?_)
   replace b4:=b4.ext hE;replace b5:=b5.ext hE;clear hK K hE hS
   try simp only[List.getElem_toArray,List.getElem_cons_zero,List.getElem_cons_succ,Act.put,List.setIfInBounds_toArray,List.set_cons_zero,List.set_cons_succ])
 have e0:=b4.cell 0;have e1:=b4.cell 1;have f0:=b4.frozen 0;have f1:=b4.frozen 1;simp only[List.getElem?_toArray,List.getElem?_cons_zero,List.getElem?_cons_succ]at e0 e1
 first
  |(
   guard_hyp N1
   refine wpAnyH_ready (rs:=[2]) (by decide +kernel) (by simp) (AllReadyH.cons rfl (fun K hK=>?_) AllReadyH.nil))
  |(
   refine wpAnyH_ready (rs:=[3]) (by decide +kernel) (by simp) (AllReadyH.cons rfl (fun K hK=>?_) AllReadyH.nil))
 go_simp
 first
  |(
   guard_hyp N1
   refine hK.out _ _ ⟨Ed hS.1 (show w.heap.size≤w.heap.size+1+1 by omega) _ _,Ey hS.2.1 (by omega) _ _,Ey hS.2.2 (by omega) _ _⟩ (fun ao=>?_))
  |(
   refine hK.out _ _ ⟨Ed ao.1 (show w.heap.size≤w.heap.size+1+1 by omega) _ _,Ey ao.2.1 (by omega) _ _,Ey ao.2.2 (by omega) _ _⟩ (fun hS=>?_))
 clear hK K e0 e1 f0 f1
 first
  |(
   guard_hyp N1
   have MW:=Ee b4 (.slice B n d) (.slice F2 1 g2);have BJ:=Ey (g':=w.heap.size+1+1) b5 (by omega) (.slice B n d) (.slice F2 1 g2)
   have oB7:=Jw oB6 b4 (by decide) (.slice B n d) (.slice F2 1 g2)
   clear hS b4 b5 oB6)
  |(
   have MW:=Ee b4 (.slice B 0 d) (.slice none 0 0);have BJ:=Ey (g':=w.heap.size+1+1) b5 (by omega) (.slice B 0 d) (.slice none 0 0)
   clear ao b4 b5)
 generalize World.setCell (World.setCell _ _ _) _ _=W7 at*
 try simp only[List.getElem_toArray,List.getElem_cons_zero,List.getElem_cons_succ,Act.put,List.setIfInBounds_toArray,List.set_cons_zero,List.set_cons_succ]
 have e0:=BJ.cell 0;have e1:=BJ.cell 1;have f0:=BJ.frozen 0;have f1:=BJ.frozen 1;simp only[List.getElem?_toArray,List.getElem?_cons_zero,List.getElem?_cons_succ]at e0 e1
 first
  |(
   guard_hyp N1
   refine wpAnyH_ready (rs:=[3]) (by decide +kernel) (by simp) (AllReadyH.cons rfl (fun K hK=>?_) AllReadyH.nil))
  |(
   refine wpAnyH_ready (rs:=[4]) (by decide +kernel) (by simp) (AllReadyH.cons rfl (fun K hK=>?_) AllReadyH.nil))
 go_simp
 first
  |(
   guard_hyp N1
   refine hK.out _ _ ⟨Ed ao.1 (show w.heap.size≤w.heap.size+1+1+1 by omega) _ _,Ey ao.2.1 (by omega) _ _,Ey ao.2.2 (by omega) _ _⟩ (fun hS=>?_))
  |(
   refine hK.out _ _ ⟨Ed hS.1 (show w.heap.size≤w.heap.size+1+1+1 by omega) _ _,Ey hS.2.1 (by omega) _ _,Ey hS.2.2 (by omega) _ _⟩ (fun ao=>?_))
 clear hK K e0 e1 f0 f1
 first
  |(
   guard_hyp N1
   have b5:=Ee BJ (.pointer r) (.int .i64 b);have b4:=Ey (g':=w.heap.size+1+1+1) MW (by omega) (.pointer r) (.int .i64 b)
   have oB8:Bd _ W.heap.size 92 2 B (n+1) d xs:=Bd.same oB7 fun k hk=>gY (w:=W7) (g:=w.heap.size+1+1+1) (show k≠w.heap.size+1+1+1 by have:=(gb k hk).1;omega) (.pointer r) (.int .i64 b)
   clear ao MW BJ oB7)
  |(
   have b5:=Ee BJ (.pointer q) (.int .i64 a);have b4:=Ey (g':=w.heap.size+1+1+1) MW (by omega) (.pointer q) (.int .i64 a)
   clear hS MW BJ)
 generalize World.setCell (World.setCell _ _ _) _ _=W8 at*
 try simp only[List.getElem_toArray,List.getElem_cons_zero,List.getElem_cons_succ,Act.put,List.setIfInBounds_toArray,List.set_cons_zero,List.set_cons_succ]
 first
  |(
   guard_hyp N1
   refine wpAnyH_ready (rs:=[4]) (by decide +kernel) (by simp) (AllReadyH.cons rfl (fun K hK=>?_) AllReadyH.nil))
  |(
   refine wpAnyH_ready (rs:=[5]) (by decide +kernel) (by simp) (AllReadyH.cons rfl (fun K hK=>?_) AllReadyH.nil))
 go_simp
 first
  |(
   guard_hyp N1
   refine hK.out _ _ hS (fun _=>?_))
  |(
   refine hK.out _ _ ao (fun _=>?_))
 clear hK K;refine wpAnyH_done (by kernel_rfl) ?_ _
 have mp:=A6 b5;have qc:=A6 b4
 first
  |(
   guard_hyp N1
   have HO:=A6 oB8;have HS:=A6 hS.1;clear b4 b5 oB8 hS)
  |(
   have HS:=A6 ao.1;clear b4 b5 ao)
 go_wp2_with fail
 first
  |(
   guard_hyp N1
   refine bodyPost_ret (R6 rfl _ _ _ _ _ _ _ _ _ _ _ _ _ rfl rfl rfl qc.out mp.out Tryz.underlying97 rfl (by kernel_rfl) Tryz.underlying92 rfl (by kernel_rfl)) rfl ⟨B,d,_,_,rfl,?_,HS.out⟩
   have hp:=Bd.popS (Bd.lower HO.out HX.out.hsize);exact hp)
  |(
   refine bodyPost_ret (R6 rfl _ _ _ _ _ _ _ _ _ _ _ _ _ rfl rfl rfl qc.out mp.out Tryz.underlying97 rfl (by kernel_rfl) Tryz.underlying92 rfl (by kernel_rfl)) rfl ⟨⟨_,_,rfl⟩,HS.out⟩)):p:=h
theorem K34 (h:p:=by
 have aw:=hl.ncap;have aq:=hl.nmax;have ab:=A6 hl.len;have HR:=A6 (@mG A n c k w aw aq);have hv:(if n>4096 then(2:Int)else if(k:Int)<0∨(k:Int)>n then 1 else 0)=0:=by
  rw[if_neg (by omega),if_neg (by omega)]
 rw[hv]at HR;clear hv;unfold maxLen at aq
 first
  |(
   guard_hyp N1
   go_enter Tryz.func133,Tryz.ntmps133)
  |(
   guard_hyp N2
   go_enter Tryz.func181,Tryz.ntmps181)
  |(
   go_enter Tryz.func180,Tryz.ntmps180)
 go_wp2_with fail
 refine HR.out.mono ?_
 rintro e w1 ⟨rfl,rfl⟩;clear HR
 first
  |(
   guard_hyp N1
   have HK:=A6 (cY (big:=big) (hl.ext (An.alloc w1 (.cells #[.slice A n c,big] 254))) k 0 (by omega) (by omega) hn))
  |(
   guard_hyp N2
   have HK:=Q2 (big:=big) (hl.ext (An.alloc w1 (.cells #[.slice A n c,big] 254))) (k+1) 0 (by omega) (by omega) hn
   rw[show((k+1:Nat):Int)=(k:Int)+1 by omega]at HK
   have HK:=A6 HK)
  |(
   have HK:=A6 (J0 (big:=big) (hl.ext (An.alloc w1 (.cells #[.slice A n c,big] 254))) k (by omega) (by omega)))
 go_wp2_with fail
 refine HK.out.mono ?_
 rintro e w2 ⟨rfl,au⟩;clear HK;have hb:=(Aq.new w1 254 #[.slice A n c,.bool big]).ext au;have he:=(An.alloc w1 (.cells #[.slice A n c,big] 254)).trans au
 first
  |(
   guard_hyp N1
   have uj:=hl.ext he;clear hl au;obtain⟨j1,-,-⟩:=Ki (l:=l) (big:=big) (kind:=0) k;have HB:Hid (Gr l k big=if Hr l big 0 k=0 then 0 else Hr l big (Bb l big ((Hr l big 0 k:Int)-1)) (Hr l big 0 k)):=A6 rfl
   revert HB j1
   generalize Hr l big 0 k=j;intro j1 HB;rcases Nat.eq_zero_or_pos j with h0|h0
   ·subst h0
    rw[if_pos rfl]at HB;clear hb;go_wp2_with fail
    go_ret2
    exact⟨by rw[HB.out];rfl,he⟩
   ·rw[if_neg (by omega)]at HB
    have e0:0≤Bb l big ((j:Int)-1):=by
     rw[show((j:Int)-1)=((j-1:Nat):Int)by omega,Hd (by rw[ab.out];omega)]
     exact dC _ _
    have e1:=(Zj l big ((j:Int)-1)).2;obtain⟨r1,-,-⟩:=Ki (l:=l) (big:=big) (kind:=Bb l big ((j:Int)-1)) j;have c0:∀i:Rf w2,i.w.cell? ⟨w1,0,none⟩=some (.slice A n c):=fun i=>(hb.ext i.h).cell 0
    have c1:∀i:Rf w2,i.w.cell? ⟨w1,1,none⟩=some (.bool big):=fun i=>(hb.ext i.h).cell 1
    clear hb;go_wp2_with fail
    refine Qy (by kernel_rfl) (by kernel_rfl) ?_
    repeat
     refine wpQuiet_step (fun K hK=>?_)
     go_simp
     first
      |(refine hK _ ?_;clear hK K)
      |(refine⟨_,fun _=>rfl,?_⟩;refine hK _ ?_;clear hK K)
      |(
       apply Exists.intro
       refine⟨fun _=>?_,hK _ ?_⟩
       (first|(go_at_call 162;exact Sx (J0 (uj.ext (Rf.h _)) _ (by omega) (by omega)))|(go_at_call 161;exact Sx (cY (uj.ext (Rf.h _)) j _ (by omega) (by omega) hn)))
       clear hK K)
    refine wpQuiet_nil ?_
    rintro _ ⟨i,rfl⟩;clear c0 c1;go_wp2_with fail
    go_ret2
    exact⟨by rw[HB.out];simp;exact IntWalk.i64_in _ (by omega),he.trans i.h⟩)
  |(
   guard_hyp N2
   have uj:=hl.ext he;clear hl au;obtain⟨j1,-,j3,j4⟩:=Ge (l:=l) (big:=big) (kind:=0) (by omega) (k+1)
   rw[ab.out]at j4;have HB:Hid (D0 l k big=if n≤Fi l big 0 (k+1)then n-1 else Fi l big (Bb l big (Fi l big 0 (k+1))) (Fi l big 0 (k+1))-1):=A6 (by unfold D0;rw[ab.out])
   have HP:Hid (∀j,j=Fi l big 0 (k+1)→j<n→0<Bb l big j):=A6 (fun j e h=>by subst e;exact Xo (by rw[ab.out];exact h) j3)
   clear j3
   revert HB HP j1 j4
   generalize Fi l big 0 (k+1)=j;intro j1 j4 HB HP;rcases Nat.lt_or_ge j n with h0|h0
   ·rw[if_neg (by omega)]at HB
    have e0:=HP.out j rfl h0;have e1:=(Zj l big j).2;have H4:j<Fi l big (Bb l big j) j∧Fi l big (Bb l big j) j≤n:=by
     obtain⟨c1,-,c3,c4⟩:=Ge (l:=l) (big:=big) (kind:=Bb l big j) (by omega) j
     rw[ab.out]at c4;refine⟨?_,by omega⟩
     rcases Nat.lt_or_ge j (Fi l big (Bb l big j) j)with h|h
     ·exact h
     ·exact absurd (by congr 1;omega) c3
    obtain⟨r1,r2⟩:=H4;have c0:∀i:Rf w2,i.w.cell? ⟨w1,0,none⟩=some (.slice A n c):=fun i=>(hb.ext i.h).cell 0
    have c1:∀i:Rf w2,i.w.cell? ⟨w1,1,none⟩=some (.bool big):=fun i=>(hb.ext i.h).cell 1
    clear hb HP;go_wp2_with fail
    refine Qy (by kernel_rfl) (by kernel_rfl) ?_
    repeat
     refine wpQuiet_step (fun K hK=>?_)
     go_simp
     first
      |(refine hK _ ?_;clear hK K)
      |(refine⟨_,fun _=>rfl,?_⟩;refine hK _ ?_;clear hK K)
      |(
       apply Exists.intro
       refine⟨fun _=>?_,hK _ ?_⟩
       (first|(go_at_call 162;exact Sx (J0 (uj.ext (Rf.h _)) _ (by omega) (by omega)))|(go_at_call 161;exact Sx (Q2 (uj.ext (Rf.h _)) j _ (by omega) (by omega) hn)))
       clear hK K)
    refine wpQuiet_nil ?_
    rintro _ ⟨i,rfl⟩;clear c0 c1;go_wp2_with fail
    go_ret2
    exact⟨by rw[HB.out];simp;rw[IntWalk.i64_in _ (by omega)];omega,he.trans i.h⟩
   ·rw[if_pos h0]at HB
    clear hb HP;go_wp2_with fail
    all_goals
     go_ret2
     exact⟨by rw[HB.out];simp;omega,he⟩)
  |(
   have c0:=hb.cell 0;have c1:=hb.cell 1;simp only[List.getElem?_toArray,List.getElem?_cons_zero,List.getElem?_cons_succ]at c0 c1;by_cases hp:0<Bb l big k
   ·have ae:=(Nw (k:=k) rfl (show 0≤Bb l big k by omega)).2
    rw[ab.out]at ae;obtain⟨r1,-,-,r4⟩:=Ge (l:=l) (big:=big) (kind:=Bb l big k) (by omega) k
    rw[ab.out]at r4;have hF:Hid (Gk l k big=Fi l big 0 (Fi l big (Bb l big k) k)):=A6 (by unfold Gk;rw[if_pos hp])
    have HO:=A6 (Q2 (big:=big) (hl.ext he) k (Bb l big k) (by omega) (by omega) hn)
    go_wp2_with fail
    refine HO.out.mono ?_
    rintro e w3 ⟨rfl,cu⟩;have c2:=cu.cell c0;have c3:=cu.cell c1;have np:=A6 (Q2 (big:=big) (hl.ext (he.trans cu)) (Fi l big (Bb l big k) k) 0 (Int.le_refl _) (by omega) hn)
    clear HO c0 c1;go_wp2_with fail
    refine np.out.mono ?_
    rintro e w4 ⟨rfl,ik⟩;clear np c2 c3;go_wp2_with fail
    go_ret2
    exact⟨by rw[hF.out];rfl,(he.trans cu).trans ik⟩
   ·have hF:Hid (Gk l k big=Fi l big 0 k):=A6 (by unfold Gk;rw[if_neg hp])
    have HO:=A6 (Q2 (big:=big) (hl.ext he) k 0 (Int.le_refl _) (by omega) hn)
    go_wp2_with fail
    refine HO.out.mono ?_
    rintro e w3 ⟨rfl,cu⟩;clear HO c0 c1;go_wp2_with fail
    go_ret2
    exact⟨by rw[hF.out];rfl,he.trans cu⟩)):p:=h
theorem K35 (h:p:=by
 have HQ:Hid (Bb l big t≠Bb l big k):=A6 (by rw[M7 (by rw[ab.out];omega),re.out];have:=(Nh (gI l k) big).1;omega)
 obtain rfl:t=n:=by omega
 have HR:Hid (Fi l big (Bb l big k) k=t):=A6 (Sc (by rw[re.out];exact(Nh _ _).1) nh sx.out HQ.out)
 have f2:=al.frozen 0;have f3:=al.frozen 1;have c4:=al.cell 0;have c5:=al.cell 1;simp only[List.getElem?_toArray,List.getElem?_cons_zero,List.getElem?_cons_succ]at c4 c5;go_wp2_with fail
 first
  |(
   guard_hyp N1
   have bi:Aq ((wr.setCell ⟨w,0,none⟩ (.int .i64 ((g:Int)+1))).setCell ⟨w,1,none⟩ t) w.heap.size 196 #[.int .i64 ((g:Int)+1),.int .i64 t]:=by
    simpa using(al.set_ 0 (.int .i64 ((g:Int)+1))).set_ 1 (.int .i64 t))
  |(
   have bi:Aq ((wr.setCell ⟨w,0,none⟩ (0:Int)).setCell ⟨w,1,none⟩ t) w.heap.size 196 #[.int .i64 0,.int .i64 t]:=by
    simpa using(al.set_ 0 (.int .i64 0)).set_ 1 (.int .i64 t))
 have c6:=bi.cell 0;have c7:=bi.cell 1;simp only[List.getElem?_toArray,List.getElem?_cons_zero,List.getElem?_cons_succ]at c6 c7;clear c4 c5 f2 f3 c0 c1 bi;rw[VW.out,HR.out];refine bodyPost_ret (by simp[results,Tryz.results150,go_sem,c6,c7];try rfl) rfl ?_
 exact⟨rfl,(he.setCell (by simp) _).setCell (by simp) _⟩):p:=h
theorem K36 (h:p:=by
 first
  |(
   guard_hyp N1
   clear hb)
  |(
   guard_hyp N2
   obtain⟨rfl,ak⟩:m=true∧200<q+n:=by rcases hb with hb|hb;exact absurd hb al;exact hb
   have hx:(200:Int)-n<q:=by omega
   have kw:n≤200:=by omega
   clear hb al ak)
  |(
   have HN:=fun w=>A6 (Zg w h)
   clear h;obtain⟨H1,H2,H3⟩:=Rh w cs 38;have h2:=A6 H2;have h3:=A6 H3;clear H1 H2 H3)
 go_enter Tryz.func148,Tryz.ntmps148
 go_wp2_with fail
 refine((HN _).out).mono ?_
 rintro e w1 ⟨rfl,rfl⟩;clear HN
 first
  |(
   guard_hyp N0
   go_wp2_with (refine wpList_store_row rfl 38 (.tmp 6) (.tmp 20) rfl (w.heap.size+1) Cb rfl rfl 38 Cb h2.out (De Q9) rfl Xm ?_))
  |(
   go_wp2_with (refine wpList_store_row rfl 38 (.tmp 6) (.tmp 37) rfl (w.heap.size+1) Cb rfl rfl 38 Cb h2.out (De Q9) rfl Xm ?_))
 have dp:=h2.out.setRow Cb
 first
  |(
   guard_hyp N0
   refine bodyPost_ret (v:=.tuple #[.agg Cb,(9:Int)]) ?_ rfl ⟨rfl,h3.out.setRow (Nat.le_succ _) _⟩)
  |(
   refine bodyPost_ret (v:=.tuple #[.agg Cb,(2:Int)]) ?_ rfl ⟨rfl,h3.out.setRow (Nat.le_succ _) _⟩)
 exact Eu rfl _ _ (w.heap.size+1) 38 _ _ _ _ rfl rfl dp Tryz.underlying38 rfl (De Q9)):p:=h
theorem K37 (h:p:=by
 first
  |(
   guard_hyp N1
   have hv:=A6 (show Nr l kn j=32 by unfold Nr;rw[if_neg (by rw[ab.out];omega)])
   go_wp2_with (at_builtin;refine C9 rfl (.tmp 50) (.tmp 52) 25 rfl w (w.heap.size+2) 3 i0 (.int .i64 0) 1 8 Tryz.underlying25 hi bm bz az rfl (by decide) B j d _ rfl ac #[.int .i64 (32)] rfl ?_ rfl ?_ ?_ he (by omega) fy ?_))
  |(
   have hv:=A6 (show Nr l kn j=Rx (gI l (kn+j))by unfold Nr;rw[if_pos (by rw[ab.out];omega)];congr 2)
   obtain⟨ad,rfl,hc⟩:=hl.at_ lm;have ca:=he.cell (hc _ lm);clear hc;go_wp2_with fail
   refine(J1l _ _).mono ?_
   rintro e w1 ⟨rfl,rfl⟩;clear ca;go_wp2_with (at_builtin;refine C9 rfl (.tmp 50) (.tmp 52) 25 rfl w (w.heap.size+2) 3 i0 (.int .i64 0) 1 8 Tryz.underlying25 hi bm bz az rfl (by decide) B j d _ rfl ac #[.int .i64 (Rx (gI l (kn+j)))] rfl ?_ rfl ?_ ?_ he (by omega) fy ?_))
 ·rfl
 ·unfold maxLen;omega
 ·omega
 ·intro B' d2 w2 ce av _ fw
  have dh:Ba w2 (w.heap.size+2) B' (j+1) d2 (Jm l kn (j+1)):=by
   rw[nJ,hv.out];simpa[Ba]using ce
  have g0:=a9.grown av (fun e=>by have:=(Bd.blk ac _ e.symm).1;omega)
  have g1:=al.grown av (fun e=>by have:=(Bd.blk ac _ e.symm).1;omega)
  have f1:=g1.frozen 0;have c3:=g1.cell 0;simp only[List.getElem?_toArray,List.getElem?_cons_zero,List.getElem?_cons_succ]at c3;clear ac ce av he c1 a9 al f1';go_wp2_with fail
  exact⟨⟨j+1,B',d2,by omega,by go_num,(g0.keepCell (by simp) _),by simpa using g1.set_ 0 (.slice B' (j+1) d2),Bd.setCell dh (by simp) _,fw.setCell (by simp) _⟩,by simp[intOf];omega⟩):p:=h
theorem K38 (h:p:=by
 go_wp2_with fail
 refine(KZ.out _ _ _ _ _ _ _ zh.out).mono ?_
 rintro en w1 ⟨⟨u,rfl⟩,cs1,e1,dm,f6⟩;clear u31 u1 u35 v35;have mi:=A6 dm;have vh:=A6 f6
 first
  |(
   guard_hyp N1
   have y31:w1.cell? ⟨g,31,none⟩=some (.int .i64 99):=dm.cell (by omega) HC.out.2)
  |(
   have y31:w1.cell? ⟨g,31,none⟩=some (.int .i64 100):=dm.cell (by omega) HC.out.2)
 have c65:=dm.mode;have f65:=dm.blk.frozen 65;have ej:=dm.setMode 0;obtain⟨B,d,c34,ho⟩:=ej.text;have c35:=ej.oat;have f35:=ej.blk.frozen 35;clear ho;obtain⟨L,hL⟩:∃L,M.length=L:=⟨_,rfl⟩;have UF:L≤200:=by rw[←hL];exact HN.out
 have R0:=A6 hL;rw[hL]at c34;have eu:=A6 ej;clear dm f6 ej hL;go_wp2_with fail
 refine(Wz (f:Int) (L:Int) _ (by omega) (by omega)).mono ?_
 rintro en w2 ⟨rfl,rfl⟩;obtain⟨z,hz⟩:∃z:Int,max 0 (min (f:Int) ((L:Int)-1))=z:=⟨_,rfl⟩;rw[hz];have dt:=eu.out.setAt z;have z31:=dt.cell (k:=31) (by omega) HC.out.2
 first
  |(
   guard_hyp N1
   have d65:=dt.mode;have g65:=dt.blk.frozen 65;have kf:=dt.setMode 1;have d35:=kf.oat;have g35:=kf.blk.frozen 35;have qh:=A6 (kf.setAt (f:Int)))
  |(
   have qh:=A6 dt)
 have HZ:=A6 hz
 first
  |(
   guard_hyp N1
   clear dt kf hz mi eu)
  |(
   clear dt hz mi eu)
 go_wp2_with fail
 go_ret
 first
  |(
   guard_hyp N1
   exact qh.out.done ⟨_,_,_,_,_,qh.out.out,fun _=>rfl,RA.out,.inr ⟨by decide,zg.out.symm,vh.out,.inl ⟨rfl,rfl,rfl⟩⟩⟩)
  |(
   exact qh.out.done ⟨_,_,_,_,_,qh.out.out,fun h=>absurd h (by omega),RA.out,.inr ⟨by decide,zg.out.symm,vh.out,.inr ⟨by decide,rfl,by rw[R0.out];exact HZ.out.symm⟩⟩⟩)):p:=h
theorem K39 (h:p:=by
 first
  |(
   guard_hyp N1
   have VZ:=A6 ve;have q0:(k3==0)=false:=by simp;omega
   have q1:(k3==100)=false:=by simp;omega
   have q2:(k3==99)=false:=by simp;omega
   have q3:(k3==121)=false:=by simp;omega
   have B4:=A6 (C4.out.ext HE.out);have jy:=A6 (CX.out.trans HE.out);clear ve)
  |guard_hyp N2
  |(
   have VZ:=A6 QS;have q0:(fk==0)=false:=by simp;omega
   have q1:(fk==102)=false:=by simp;omega
   have q2:(fk==70)=false:=by simp;omega
   have q3:(fk==116)=false:=by simp;omega
   have q4:(fk==84)=false:=by simp;omega
   have B4:=A6 (C4.out.ext HE.out);have jy:=A6 (CX.out.trans HE.out);clear QS)
 go_wp2_with (refine wpList_store_row rfl 77 (.tmp 8) _ rfl (w.heap.size+1+1+1+1) Gq rfl rfl 77 Gq B4.out (Hv rfl) rfl Ss ?_)
 have dp:=B4.out.setRow Gq
 first
  |(
   guard_hyp N1
   refine bodyPost_ret (v:=.tuple #[.agg Gq,(9:Int)]) ?_ rfl ⟨An.setRow jy.out (by omega) _,.inl ⟨fun h=>VZ.out h.1.2,9,by decide,rfl⟩⟩)
  |(
   guard_hyp N2
   refine bodyPost_ret (v:=.tuple #[.agg Gq,er]) ?_ rfl ⟨An.setRow jy.out (by omega) _,.inl ⟨fun h=>ey (ns.out h.2),er,ey,rfl⟩⟩)
  |(
   refine bodyPost_ret (v:=.tuple #[.agg Gq,(1:Int)]) ?_ rfl ⟨An.setRow jy.out (by omega) _,.inl ⟨fun h=>VZ.out h.1.1,1,by decide,rfl⟩⟩)
 exact Eu rfl _ _ (w.heap.size+1+1+1+1) 77 _ _ _ _ rfl rfl dp Tryz.underlying77 rfl (Hv rfl)):p:=h
theorem K40 (h:p:=by
 have HL:=A6 (Qm k);rw[hl]at HL;clear hl;unfold Kb;simp only;go_enter Tryz.func87,Tryz.ntmps87
 go_wp2_with (go_at_call 135;refine(HL.out _).mono ?_;rintro e w' ⟨rfl,rfl⟩)
 first
  |(
   guard_hyp N1
   obtain⟨_,ng,ko,dq⟩:=three (w:=w) (.int .i64 f) (.int .i64 r) (.int .i64 o) (.int .i64 s) (.int .i64 34) (.int .i64 0) (.int .i64 0) (.int .i64 0) (.int .i64 0) (.int .i64 0) (.int .i64 0) (.int .i64 0) (.int .i64 0) (.int .i64 0) (.int .i64 0))
  |(
   obtain⟨_,ng,ko,dq⟩:=three (w:=w) (.int .i64 f) (.int .i64 k) (.int .i64 o) (.int .i64 s) (.int .i64 0) (.int .i64 f) (.int .i64 k) (.int .i64 o) (.int .i64 s) (.int .i64 0) (.int .i64 0) (.int .i64 0) (.int .i64 0) (.int .i64 0) (.int .i64 0))
 obtain⟨⟨e0,e1,e2,e3,e4⟩,_⟩:=ng.five;obtain⟨⟨d0,d1,d2,d3,d4⟩,_⟩:=ko.five;refine bodyPost_ret (by simp[results,Tryz.results87,go_sem,e0,e1,e2,e3,e4,d0,d1,d2,d3,d4];try rfl) rfl ?_
 exact⟨rfl,dq⟩):p:=h
theorem K41 (h:p:=by
 first
  |(
   guard_hyp N1
   clear jm HN)
  |(
   subst il;rw[Ei]at pk bk;have j7:((1:Int)==n)=true:=hf;clear jm HN hf)
 go_wp2_with (at_builtin;refine C9 rfl (.tmp 73) (.tmp 78) 25 rfl w1 w1.heap.size 3 i0 (.int .i64 0) 1 8 Tryz.underlying25 hi bm bz az rfl (by decide) C q c' _ rfl ac _ rfl ?_ rfl ?_ ?_ au (Nat.le_refl _) au.hsize ?_)
 ·rfl
 ·unfold maxLen;omega
 ·omega
 ·intro C2 c2 w2 ce _ _ fw
  first
   |(
    guard_hyp N1
    have dh:Ba w2 w1.heap.size C2 (q+1) c2 (Mw p s (j+1)):=by
     rw[kr.out,show(j:Int)+1-n=(j:Int)+1-(kn+1)by have:=HF.out;omega];simpa[Ba]using ce)
   |(
    have dh:Ba w2 w1.heap.size C2 (q+1) c2 (Mw p s (j+1)):=by
     rw[kr.out,show(j:Int)+1-n=(j:Int)by have:=HF.out;omega];simpa[Ba]using ce)
  have bk2:=fw.cell bk;clear ac ce au bk;go_wp2_with fail
  go_roundw
  case rel=>exact⟨bl p n,j+1,q+1,C2,c2,MX,by omega,by omega,rfl,by go_num,rfl,sd,dh,fw⟩
  case measure=>simp[intOf];omega):p:=h
theorem K42 (h:p:=by
 obtain⟨q1,q2,_,q4⟩:=hs.feed (b:=t) (by omega) ht
 refine(Wf (b:=t) hm ho hs.pend hs.pend.lt ht q4).mono ?_
 rintro e w' ⟨col',v',rfl,jf,SC,di⟩;have jf:Dm w' col' p v' (Cj s t):=jf;obtain⟨E,n,k,xs,ob,hO,hl,hg,hD⟩:=jf.told;obtain⟨S2,n2,k2,GL,_⟩:=jf.vis
 first
  |guard_hyp N1
  |(
   have cm:∀u∈xs,u.oneCell'=true:=Lv.one hD.here (by rw[hO.len,hl]))
 have hb:=Nat.le_trans q2 (Nat.mul_le_mul_right 1905000 (show t.size+1≤4097 by omega))
 first
  |(
   guard_hyp N1
   exact⟨_,rfl,col',v',E,n,k,S2,n2,k2,by rw[ob,GL],ob,jf,SC,q1,di,by rw[←hl];omega⟩)
  |(
   exact⟨_,rfl,col',v',E,n,k,xs,S2,n2,k2,by rw[ob,GL],jf,SC,q1,di,hO,hl,fun g e=>hg g (by rw[ob];exact e),cm,by rw[←hl];omega⟩)):p:=h
theorem K43 (h:p:=by
 intro O2 d2 w3 db av cf bg
 first
  |(
   guard_hyp N1
   have ai:(Value.slice O q' d).ownBlock≠some g:=fun e=>by have:=(Bd.blk vq.out g e).1;omega)
  |(
   have ai:(Value.slice O q d).ownBlock≠some g:=fun e=>by have:=(Bd.blk vq.out g e).1;omega)
 have ap:=vo.out.grown av (fun e=>ai e.symm)
 have c1:=ap.cell 1;have f1:=ap.frozen 1;simp only[List.getElem?_toArray,List.getElem?_cons_zero,List.getElem?_cons_succ]at c1
 first
  |(
   guard_hyp N1
   have bn:Aq (w3.setCell ⟨g,1,none⟩ (.slice O2 (q'+1) d2)) g 134 #[.slice A 0 c,.slice O2 (q'+1) d2]:=by simpa using ap.set_ 1 (.slice O2 (q'+1) d2)
   have fd:Ba (w3.setCell ⟨g,1,none⟩ (.slice O2 (q'+1) d2)) (g+1) O2 (q'+1) d2 ((out++[65533])++[65533]):=by
    have:=Bd.setCell db (p:=⟨g,1,none⟩) (Nat.lt_succ_self g) (.slice O2 (q'+1) d2)
    simpa[Ba]using this)
  |(
   have bn:Aq (w3.setCell ⟨g,1,none⟩ (.slice O2 (q+1) d2)) g 134 #[.slice A 0 c,.slice O2 (q+1) d2]:=by simpa using ap.set_ 1 (.slice O2 (q+1) d2)
   have fd:Ba (w3.setCell ⟨g,1,none⟩ (.slice O2 (q+1) d2)) (g+1) O2 (q+1) d2 (out++[65533]):=by
    have:=Bd.setCell db (p:=⟨g,1,none⟩) (Nat.lt_succ_self g) (.slice O2 (q+1) d2)
    simpa[Ba]using this)
 have fm:=HAZ.out w3 _ av (Bd.apart MY.out vq.out (by decide))
 first
  |(
   guard_hyp N1
   have HX:=A6 (bg.setCell (p:=⟨g,1,none⟩) hg (.slice O2 (q'+1) d2));have HF:Hid (Fx (w3.setCell ⟨g,1,none⟩ (.slice O2 (q'+1) d2)) g ⟨[],(out++[65533])++[65533]⟩):=A6 ⟨A,0,c,O2,q'+1,d2,bn,Bd.setCell fm (p:=⟨g,1,none⟩) (Nat.lt_succ_self g) _,fd⟩)
  |(
   have HX:=A6 (bg.setCell (p:=⟨g,1,none⟩) hg (.slice O2 (q+1) d2));have HF:Hid (Fx (w3.setCell ⟨g,1,none⟩ (.slice O2 (q+1) d2)) g ⟨[],out++[65533]⟩):=A6 ⟨A,0,c,O2,q+1,d2,bn,Bd.setCell fm (p:=⟨g,1,none⟩) (Nat.lt_succ_self g) _,fd⟩)
 clear db av cf bg ap bn fd fm ai ho k0 k1 f0;go_wp2_with fail
 refine bodyPost_ret (results_none rfl _ _ _) rfl ?_
 exact⟨rfl,by rw[HR.out];exact HF.out,HX.out⟩):p:=h
theorem K44 (h:p:=by
 rcases Nat.lt_or_ge i p with h1|h1
 ·rcases Nat.lt_or_ge i lo with h2|h2
  ·exact P2.1.2.1.2 i hi' (.inl (m4 i (Nat.zero_le _) h2))
  ·rcases Nat.lt_or_ge i hi with h3|h3
   first
    |(
     guard_hyp N1
     ·exact P2.2.2.1.2 i hi' (.inr ⟨h2,h3⟩))
    |(
     ·exact P2.1.2.1.2 i hi' (.inr ⟨h2,h3⟩))
   ·rcases Nat.lt_or_ge i full with h4|h4
    ·exact P2.1.2.1.2 i hi' (.inl (m5 i h3 h4))
    ·exact P2.1.2.1.2 i hi' (.inl (t4 i h4 (by omega)))
 first
  |(
   guard_hyp N1
   ·exact P3.1.2.1.2 i hi' (.inr ⟨h1,hi'⟩))
  |(
   ·exact P2.2.2.1.2 i hi' (.inr ⟨h1,hi'⟩))):p:=h
theorem K45 (h:p:=by
 first
  |(
   guard_hyp N1
   have hw:Region.wanted o (yielded ops a.tmps)=true:=by simp[Region.wanted,dn]
   rw[if_pos hw];have key:wpList P #[] Q [o] a (w1.alloc (.cells us e))=wpList P #[] Q [o] a (w1.alloc (.cells us e)):=rfl;clear key)
  |skip
 have hr:Rd (w1.alloc (.cells us e)) z (some ⟨w1,0,none⟩) 1 1 us.toList:=by
  refine⟨by simpa using hu,Nat.le_refl _,by unfold maxLen;omega,fun _=>⟨_,rfl,fun j u hj=>?_⟩⟩
  have e1:(⟨w1,0,none⟩:Addr).add j=⟨w1,j,none⟩:=by simp[Addr.add_lit]
  rw[e1,(Aq.new w1 e us).cell j]
  simpa using hj
 first
  |(
   guard_hyp N1
   have hc:∀j u,us.toList[j]? = some u→(w1.alloc (.cells us e)).cell? ((⟨w1,0,none⟩:Addr).add j)=some u:=by
    obtain⟨VO,e1,hc⟩:=hr.at_ (k:=0) (by omega)
    injection e1 with e1;subst e1;exact hc
   have ce:=ac.ext (An.alloc w1 (.cells us e));obtain⟨v',w',de,h2,h3,_,h5⟩:=run_append_own_at (P:=P) (w1.alloc (.cells us e)) base t o.type e i zv z bytes ht hi hz hsize IP IQ dl (.slice A n c) n xs ce ⟨w1,0,none⟩ 1 1 us.toList hr.len hc h1 IS jg (Nat.le_trans l8 (An.alloc w1 (.cells us e)).hsize);have hv:∃A' c',v'=.slice A' (n+1) c':=by
    exact I85
   obtain⟨A',c',rfl⟩:=hv;unfold Oper.wp execOp;simp only[ho,resolve,invoke,builtin,Sem.run_bind,Sem.run_pure,Result.andThen_ok,List.map_toArray,List.map_cons,List.map_nil,hs,hx,de];refine h A' c' w' h2 ⟨h3.os,h3.tape,h3.output,Nat.le_trans (An.alloc _ _).hsize h3.size,fun k hk ai=>(h3.block k (Nat.lt_of_lt_of_le hk (An.alloc _ _).hsize) ai).trans (Below.heap_alloc _ _ _ hk)⟩ ?_ (An.grown (he.to_alloc _) h3 ce hb)
   rcases h5 with k3|k3)
  |(
   refine Eh dn s x t ho w0 base e i zv z bytes ht hi hz hsize IP IQ dl A n c xs hs (ac.ext (An.alloc _ _)) _ 1 1 us.toList hx hr h1 IS jg (he.to_alloc _) hb (Nat.le_trans l8 (An.alloc _ _).hsize) ?_
   intro A' c' w' k1 k2 k3 k4;refine h A' c' w' k1 ⟨k2.os,k2.tape,k2.output,Nat.le_trans (An.alloc _ _).hsize k2.size,fun k hk ai=>(k2.block k (Nat.lt_of_lt_of_le hk (An.alloc _ _).hsize) ai).trans (Below.heap_alloc _ _ _ hk)⟩ ?_ k4
   rcases k3 with k3|k3)
 ·exact .inl k3
 ·exact .inr ⟨_,(An.alloc _ _).hsize,k3⟩):p:=h
theorem K46 (h:p:=by
 have d2:w.cell? ⟨p,2,none⟩=some (.int .i64 s.mode):=h.ses.blk.cell 2;have d0:w.cell? ⟨p,0,none⟩=some (.pointer v.tr):=h.ses.blk.cell 0
 first
  |(
   guard_hyp N1
   obtain⟨z,hz⟩:∃z:Int,z=(s.tx.length:Int):=⟨_,rfl⟩;have bm:(0:Int)<z:=by have:=List.length_pos_iff.2 ht;omega
   have HL:Hid (Calls Tryz.prog 62 #[.agg #[.pointer v.tr]] w fun e w'=>e=.returned (.int .i64 z)∧An w w'):=
    A6 ((aN h.ses.dat.here.tr).mono fun e w' ⟨h1,h2⟩=>⟨by rw[h1,(Wk (by omega)).2,hz],h2⟩)
   have DL:Hid (∀wq,An w wq→Calls Tryz.prog 63 #[.pointer (some ⟨p,0,none⟩)] wq fun e w'=>e=.returned (.tuple #[])∧C6 p w col (Ec s) w'):=
    A6 fun wq he=>(Lf (h.ext he) (by omega)).mono fun e w' ⟨h1,h2⟩=>⟨h1,C6.trans ⟨he.alt _,fun _ _ h=>h,fun _ _ h=>h⟩ h2⟩
   clear h ht hz)
  |(
   have HL:Hid (Calls Tryz.prog 62 #[.agg #[.pointer v.tr]] w fun e w'=>e=.returned (.int .i64 0)∧An w w'):=
    A6 ((aN h.ses.dat.here.tr).mono fun e w' ⟨h1,h2⟩=>⟨by rw[h1,ht];rfl,h2⟩)
   have DL:Hid (∀wq,An w wq→Calls Tryz.prog 58 #[.pointer (some ⟨p,0,none⟩),.int .i64 4,.slice none 0 0] wq fun e w'=>e=.returned (.tuple #[])∧C6 p w col { s with told:=s.told++[(4,[])] } w'):=
    A6 fun wq he=>(V7 (k:=4) (y:=.slice none 0 0) (l:=[]) (h.ext he) (fun _ w' _ _=>Bl.nil w' 0) (by omega)).mono fun e w' ⟨h1,h2⟩=>⟨h1,C6.trans ⟨he.alt _,fun _ _ h=>h,fun _ _ h=>h⟩ h2⟩
   clear h ht)
 go_enter Tryz.func40,Tryz.ntmps40
 go_wp2_with fail
 refine HL.out.mono ?_
 rintro e w1 ⟨rfl,he⟩;have HX:=A6 he;clear he HL d0 d2;go_wp2_with fail
 refine(DL.out _ HX.out).mono ?_
 first
  |(
   guard_hyp N1
   rintro e w2 ⟨rfl,hd⟩;have HR:=A6 hd;clear hd DL)
  |(
   rintro e w2 ⟨rfl,col2,v2,ej,ju⟩;have d55:w2.cell? ⟨p,55,none⟩=some (.bool s.over):=ej.ses.blk.cell 55;have f55:=ej.ses.blk.frozen 55;have hr:=ej.chain ((E5.start (An.refl _) ej.ses.blk).set 55 (.bool true)) v2 { { s with told:=s.told++[(4,[])] }with over:=true } (by kernel_rfl) (fun w'' _ ht hd=>⟨hd.1,hd.2,hd.3,hd.4,hd.5,hd.6,hd.7,hd.8⟩)
   have HR:Hid (C6 p w col (aZ s) _):=A6 ⟨_,_,hr.1,ju.trans hr.2⟩;clear ej ju hr DL)
 go_wp2_with fail
 first
  |(
   guard_hyp N1
   refine bodyPost_ret (results_none rfl _ _ _) rfl ⟨rfl,HR.out⟩)
  |(
   go_end0
   exact⟨rfl,HR.out⟩)):p:=h
theorem K47 (h:p:=by
 have ac:=dj.out;have he:=He.out
 first
  |(
   guard_hyp N1
   go_wp2_with (at_builtin;refine C9 rfl (.tmp 33) (.tmp 40) 25 rfl w (w.heap.size+1) 3 i0 (.int .i64 0) 1 8 Tryz.underlying25 hi bm bz az rfl (by decide) O q d _ rfl ac #[.int .i64 (48+f/10%10)] rfl ?_ rfl ?_ ?_ he (Nat.le_succ _) dy ?_))
  |(
   guard_hyp N2
   go_wp2_with (at_builtin;refine C9 rfl (.tmp 33) (.tmp 40) 25 rfl w (w.heap.size+1) 3 i0 (.int .i64 0) 1 8 Tryz.underlying25 hi bm bz az rfl (by decide) O q d _ rfl ac #[.int .i64 (48+f%10)] rfl ?_ rfl ?_ ?_ he (Nat.le_succ _) dy ?_))
  |(
   go_wp2_with (at_builtin;refine C9 rfl (.tmp 33) (.tmp 40) 25 rfl w (w.heap.size+1) 3 i0 (.int .i64 0) 1 8 Tryz.underlying25 hi bm bz az rfl (by decide) O q d _ rfl ac #[.int .i64 (48+f/100%10)] rfl ?_ rfl ?_ ?_ he (Nat.le_succ _) dy ?_))
 ·rfl
 ·unfold maxLen;omega
 ·omega
 ·intro A2 c2 w2 k1 k2 k3 k4
  first
   |(
    guard_hyp N1
    have K1:Hid (Ba w2 (w.heap.size+1) A2 (q+1) c2 (l++[48+f/10%10])):=A6 (by simpa[Ba]using k1))
   |(
    guard_hyp N2
    have K1:Hid (Ba w2 (w.heap.size+1) A2 (q+1) c2 (l++[48+f%10])):=A6 (by simpa[Ba]using k1))
   |(
    have K1:Hid (Ba w2 (w.heap.size+1) A2 (q+1) c2 (l++[48+f/100%10])):=A6 (by simpa[Ba]using k1))
  have K2:=A6 (Hb.out.grown k2 (fun e=>by have:=(Bd.blk dj.out _ e.symm).1;omega))
  have K4:=A6 k4;have az:w.heap.size+1≤w2.heap.size:=K2.out.lt;clear k1 k2 k3 k4 ac he pc dj Hb He dy;go_wp2_with fail
  go_roundw
  first
   |(
    guard_hyp N1
    case rel=>exact⟨1,_,A2,q+1,c2,rfl,rfl,by omega,.inr (.inr (.inl ⟨rfl,wK hn HL.out,by omega⟩)),K1,K2,K4,az⟩)
   |(
    guard_hyp N2
    case rel=>exact⟨0,_,A2,q+1,c2,rfl,rfl,by omega,.inr (.inr (.inr ⟨rfl,J1d hn HL.out⟩)),K1,K2,K4,az⟩)
   |(
    case rel=>exact⟨10,_,A2,q+1,c2,rfl,rfl,by omega,.inr (.inl ⟨rfl,pM hn HL.out,by omega⟩),K1,K2,K4,az⟩)
  case measure=>simp[intOf]):p:=h
theorem K48 (h:p:=by
 have hp:=wT hq h
 first
  |(
   guard_hyp N1
   obtain⟨m6,ks1,gq,_⟩:=wU hq h)
  |skip
 obtain⟨h1,h2,h3,h4,h5,m0,p0,o0,t0,ja⟩:=h;have hy:=J1i h4 h1 h2;have hw:=Sg (s:=Ce s []) h4 hq.1 hq.2.1 hq.2.2;rw[Vi h2]at hw;have gi:Cj s (Fb c)=Bq (Ce s []) (En c):=rB hp h3;rw[←gi]at hw;have l0:(Cj s (Fb c)).pend=[]:=Zq hp h3;generalize Cj s (Fb c)=sA at*
 first
  |(
   guard_hyp N1
   have hfA:sA.first=s.first:=(show(Cg sA).first=s.first from by rw[hw,J8e];rfl))
  |skip
 obtain⟨s0,gp⟩:∃x,x=Cg (Ce s []):=⟨_,rfl⟩;rw[←gp]at hw;have GR:s0.told=[]:=by rw[gp];rfl
 have lm:sA.told=[]→∃d,L2 s0.tx s0.rl s0.at_ s0.fk s0.fa c=some d∧Cg sA=Hq s0 c d:=fun uv=>by
  unfold doS at hw;cases hd:L2 s0.tx s0.rl s0.at_ s0.fk s0.fa c with
  |none=>
   exfalso
   rw[hd]at hw;have:sA.told=s0.told++[(1,[])]:=show(Cg sA).told=_ from by rw[hw];rfl
   rw[uv,GR]at this;cases this
  |some d=>rw[hd]at hw;exact⟨d,rfl,hw⟩
 rcases ja with⟨hm,_,rfl⟩|⟨hm,gj,dl,_,uv,rfl⟩
 ·obtain⟨d,hd,jw⟩:=lm t0
  obtain⟨l1,l2,l3,l4⟩:=dM (s:=s0) (d:=d) hy;have dw:d.md=0:=by rw[←l3,←jw];exact hm
  first
   |(
    guard_hyp N1
    refine⟨l0,hfA,[],?_,Nat.zero_le _⟩)
   |(
    refine⟨l0,[],?_,fun ai=>absurd ((bB (Q6 hd)).symm.trans dw) ai⟩)
  show(Cg s1).last=_
  rw[jw];exact(l1 dw).1
 first
  |(
   guard_hyp N1
   ·obtain⟨d,hd,jw⟩:=lm uv
    obtain⟨l1,l2,l3,l4⟩:=dM (s:=s0) (d:=d) hy;have dw:d.md≠0:=fun e=>hm (by show(Cg sA).mode=0;rw[jw,l3,e])
    have FI:=rZ (s:=sA) l0 gj;have gy:sA.over=false:=by
     exact I155
    have nn:=bB (Q6 hd);have eK:sA.mode=1∨sA.mode=2:=by
     have e1:sA.mode=d.md:=show(Cg sA).mode=_ from by rw[jw,l3]
     have e2:=nn;exact I157
    obtain⟨k1,_,_⟩:=Z3 (s:=Ce sA []) eK gy h5;rw[←FI]at k1;have ny:(Cj sA (Pg ty++Pd)).first=s.first:=by
     show(Cg (Cj sA (Pg ty++Pd))).first=_
     rw[k1];exact(J7x ty _).trans hfA
    have ep:(Cg (Ce sA [])).now=some (c,[]):=show(Cg sA).now=_ from by rw[jw];exact l2 dw
    have mq:(keysF (Cg (Ce sA [])) ty).told=[]:=by
     exact I156
    have hk:=vB ty (s:=Cg (Ce sA [])) (c:=c) (ks:=[]) (fun x hx=>by have:=h5 x hx;omega) ep (by rw[mq];rfl)
    refine⟨m6,ny,ty,?_,?_⟩
    ·show(Cg (Cj sA (Pg ty++Pd))).last=_
     rw[k1]
     show(keysF (Cg (Ce sA [])) ty).now.or _=_
     rw[hk]
     rfl
    ·have h6:=J7y ty gj
     have h7:(Pg ty).size=(Hs ty).length:=by
      unfold Pg;rw[←F5,Jg (Sf gj)]
     omega)
  |(
   ·obtain⟨d,hd,jw⟩:=lm uv
    obtain⟨l1,l2,l3,l4⟩:=dM (s:=s0) (d:=d) hy;have dw:d.md≠0:=fun e=>hm (by show(Cg sA).mode=0;rw[jw,l3,e])
    have FI:=rZ (s:=sA) l0 gj;have gy:sA.over=false:=by
     exact I155
    have eK:sA.mode=1∨sA.mode=2:=by
     have e1:sA.mode=d.md:=show(Cg sA).mode=_ from by rw[jw,l3]
     have e2:=bB (Q6 hd);exact I157
    obtain⟨k1,_,_⟩:=Z3 (s:=Ce sA []) eK gy h5;rw[←FI]at k1;have zx:(Cj sA (Pg ty++Pd)).pend=[]:=by rw[FI,M0];rfl
    refine⟨zx,ty,?_,fun _=>⟨rfl,gj,dl⟩⟩
    have cy:(Cg (Ce sA [])).now=some (c,[]):=show(Cg sA).now=_ from by rw[jw];exact l2 dw
    have mq:(keysF (Cg (Ce sA [])) ty).told=[]:=by
     exact I156
    have hk:=vB ty (s:=Cg (Ce sA [])) (c:=c) (ks:=[]) (fun x hx=>by have:=h5 x hx;omega) cy (by rw[mq];rfl)
    show(Cg (Cj sA (Pg ty++Pd))).last=_
    rw[k1]
    show(keysF (Cg (Ce sA [])) ty).now.or _=_
    rw[hk]
    rfl)):p:=h
theorem K49 (h:p:=by
 first
  |(
   guard_hyp N1
   rw[Zr.2 bD]at HEq;obtain⟨u1,u2,u3,u4,u5⟩:=J8h DD.out.pend DD.out.q (fun e=>bD (e.trans DD.out.first))
   obtain rfl:n11=0:=cQ.out.2.symm.trans u1;rw[DD.out.first]at u2)
  |(
   rw[Q5.2 bD]at HEq;obtain⟨u1,u2,u3⟩:=J8n DD.out.pend DD.out.q (bD.trans DD.out.first.symm);obtain rfl:n11=1:=cQ.out.2.symm.trans u1)
 have CR:=cQ.out.1
 first
  |(
   guard_hyp N1
   have iu:1000+(upB.size+1)≤1800000:=by decide)
  |skip
 clear cQ u1;generalize Cj s upB=s2 at*
 first
  |(
   guard_hyp N1
   obtain⟨s3,qr⟩:∃x,x=Cj s2 unB:=⟨_,rfl⟩;rw[←qr]at u4 u5;have HU:=A6 (And.intro u4 u5))
  |(
   have HU:=A6 (And.intro u2 u3))
 have HSx:=A6 (Jq CR)
 first
  |(
   guard_hyp N1
   have H3:=A6 qr;have we:=A6 (And.intro CR u3);have HU2:=A6 u2;generalize 1000+(upB.size+1)=N2 at*;clear u2 u3 u4 u5 CR bD qr)
  |(
   clear u2 u3 CR bD)
 go_wp2_with fail
 refine HEq.out.mono ?_
 rintro e w12 ⟨rfl,IN⟩
 first
  |(
   guard_hyp N1
   have ct:=A6 (cR.out.ext IN);have dE:=A6 (l5.out.ext IN);have br:=A6 (And.intro (dI.out.1.ext IN) dI.out.2))
  |(
   have ct:=A6 (cR.out.ext (IN.trans (An.drew w12)));have dE:=A6 (l5.out.ext (IN.trans (An.drew w12)));have br:=A6 (dI.out.1.ext IN))
 have PI:=A6 (J7r (Ks ct.out.l HSx.out.1 HSx.out.2));clear x0 x1 IN HEq cR l5 dI
 first
  |(
   guard_hyp N1
   go_wp2_with fail
   refine PI.out.mono ?_
   rintro e w13 ⟨v3,rfl,A3,n3,c3,Lx3,m3,d3,R3,f3,rfl,JC,PW⟩;have j7:=Xs A3 n3 c3 f3 (.slice Lx3 m3 d3) R3 s2;have ne:=Xq A3 n3 c3 s2.at_;rw[HU2.out]at JC;have eM:=A6 (ct.out.ext PW);have gD:=A6 (dE.out.ext PW);have eO:=A6 (And.intro (br.out.1.ext PW) br.out.2);have HEq:=A6 (Lk JC (HL.out.ext eM.out.x));rw[Q5.2 rfl]at HEq;clear JC PW PI ct dE br;go_wp2_with fail
   refine HEq.out.mono ?_
   rintro e w14 ⟨rfl,aR⟩;have eP:=A6 (eM.out.ext aR);have hH:=A6 (gD.out.ext aR);have eR:=A6 (And.intro (eO.out.1.ext aR) eO.out.2);have rx:=A6 (Vh (t:=unB) eP.out.l we.out.1 iu we.out.2 (by decide))
   clear j7 ne aR HEq eM gD eO;go_wp2_with fail
   refine rx.out.mono ?_
   rintro e w15 ⟨x15,rfl,col15,v15,E15,n15,k15,F15,m15,j15,rfl,QC,QD,QE,CL,_,_⟩;rw[←H3.out]at QD CL;have iD:=A6 ((eP.out.turn QD QE).ext (An.drew w15));have oF:=A6 ((hH.out.turn QE).ext (An.drew w15));have CM:Aq w15 g9 32 #[.slice A5 n5 c5,.int .i64 s.at_]:=QE.1.blk eR.out.1 fun hM=>hM.1 eR.out.2
   have yy:=A6 (Jq CL);have oJ:=A6 (J7r (Ks iD.out.l yy.out.1 yy.out.2));obtain⟨x0,x1⟩:=(⟨CM.cell 0,CM.cell 1⟩:_∧_))
  |(
   obtain⟨x0,x1⟩:=(⟨br.out.cell 0,br.out.cell 1⟩:_∧_))
 simp only[List.getElem?_toArray,List.getElem?_cons_zero,List.getElem?_cons_succ]at x0 x1
 first
  |(
   guard_hyp N1
   clear QD QE CL QC CM eP hH eR rx iu;go_upto_region 25 with fail
   refine wp_region_held_drew (S:=fun w'=>An w15 w') (by kernel_rfl) (An.drew w15) (fun aa=>?_)
   refine Bf (i:=0) (v:=some p) rfl aa ?_
   refine Ga (i:=3) (v:=(.agg #[.slice A5 n5 c5,s.at_])) rfl (fun w ag=>by(have y0:=An.cell ag x0;have y1:=An.cell ag x1;go_simp)) aa ?_
   refine wpAnyH_ready (rs:=[1]) (by kernel_rfl) (by simp) ?_)
  |(
   go_upto_region 21 with fail
   refine wp_region_held_drew (S:=fun w'=>An w12 w') (by kernel_rfl) (An.drew w12) (fun aa=>?_)
   refine Bf (i:=0) (v:=(0:Int)) rfl aa ?_
   refine Bf (i:=1) (v:=(.bool true)) rfl aa ?_
   refine Bf (i:=2) (v:=(.bool true)) rfl aa ?_
   refine wpAnyH_take (i:=3) (v:=(.slice E11 1 k11)) rfl (by kernel_rfl) (by kernel_rfl) (by kernel_rfl) (fun _ _ _ h=>h) (Or.inl ⟨by kernel_rfl,by(intro w ag;go_simp)⟩) aa ?_
   try simp only[List.getElem_toArray,List.getElem_cons_zero,List.getElem_cons_succ,Act.put,List.setIfInBounds_toArray,List.set_cons_zero,List.set_cons_succ]
   refine wpAnyH_take (i:=4) (v:=(1:Int)) rfl (by kernel_rfl) (by kernel_rfl) (by kernel_rfl) (fun _ _ _ h=>h) (Or.inl ⟨by kernel_rfl,by(intro w ag;go_simp)⟩) aa ?_
   try simp only[List.getElem_toArray,List.getElem_cons_zero,List.getElem_cons_succ,Act.put,List.setIfInBounds_toArray,List.set_cons_zero,List.set_cons_succ]
   refine wpAnyH_take (i:=5) (v:=(.bool true)) rfl (by kernel_rfl) (by kernel_rfl) (by kernel_rfl) (fun _ _ _ h=>h) (Or.inl ⟨by kernel_rfl,by(intro w ag;go_simp)⟩) aa ?_
   try simp only[List.getElem_toArray,List.getElem_cons_zero,List.getElem_cons_succ,Act.put,List.setIfInBounds_toArray,List.set_cons_zero,List.set_cons_succ]
   refine Bf (i:=6) (v:=(.bool true)) rfl aa ?_
   refine Bf (i:=7) (v:=(.bool true)) rfl aa ?_
   refine wpAnyH_take (i:=8) (v:=some p) rfl (by kernel_rfl) (by kernel_rfl) (by kernel_rfl) (fun _ _ _ h=>h) (Or.inl ⟨by kernel_rfl,by(intro w ag;go_simp)⟩) aa ?_
   try simp only[List.getElem_toArray,List.getElem_cons_zero,List.getElem_cons_succ,Act.put,List.setIfInBounds_toArray,List.set_cons_zero,List.set_cons_succ]
   refine wpAnyH_take (i:=11) (v:=(.agg #[.slice A5 n5 c5,s.at_])) rfl (by kernel_rfl) (by kernel_rfl) (by kernel_rfl) (fun _ _ _ h=>h) (Or.inl ⟨by kernel_rfl,by(intro w ag;(have y0:=An.cell ag x0;have y1:=An.cell ag x1;go_simp))⟩) aa ?_
   try simp only[List.getElem_toArray,List.getElem_cons_zero,List.getElem_cons_succ,Act.put,List.setIfInBounds_toArray,List.set_cons_zero,List.set_cons_succ]
   refine wpAnyH_ready (rs:=[9]) (by kernel_rfl) (by simp) ?_)
 refine AllReadyH.cons rfl (fun K hK=>?_) AllReadyH.nil
 first
  |(
   guard_hyp N1
   refine C8 rfl 14 #[.pointer (some ⟨p,0,none⟩)] rfl (by kernel_rfl) (J8g w15.drew s3) oJ.out ?_)
  |(
   refine M6 (by kernel_rfl) 14 #[.pointer (some ⟨p,0,none⟩)] rfl (by kernel_rfl) (J8g w12.drew s2) PI.out ?_)
 rintro v3 w13 ⟨A3,n3,c3,Lx3,m3,d3,R3,f3,rfl,JC,PW⟩
 first
  |(
   guard_hyp N1
   have j7:=Xs A3 n3 c3 f3 (.slice Lx3 m3 d3) R3 s3)
  |(
   have j7:=Xs A3 n3 c3 f3 (.slice Lx3 m3 d3) R3 s2)
 rw[HU.out.2]at j7;rw[HU.out.1]at JC
 first
  |(
   guard_hyp N1
   have HS:=A6 (eQ (a:=s.at_) JC (oF.out.own.ints.ext PW));have AV:=A6 (iD.out.x.trans PW);have m8:=(An.drew w15).trans PW)
  |(
   have HS:=A6 (eQ (a:=s.at_) JC (dE.out.own.ints.ext PW));have AV:=A6 (ct.out.x.trans PW);have m8:=(An.drew w12).trans PW)
 clear JC PW;refine hK.out _ _ m8 (fun af=>?_)
 clear hK K aa
 try simp only[List.getElem_toArray,List.getElem_cons_zero,List.getElem_cons_succ,Act.put,List.setIfInBounds_toArray,List.set_cons_zero,List.set_cons_succ]
 first
  |(
   guard_hyp N1
   refine Bf (i:=2) (v:=(.agg #[.slice A3 n3 c3,s.at_])) rfl af ?_
   refine wpAnyH_ready (rs:=[4]) (by kernel_rfl) (by simp) ?_)
  |(
   refine wpAnyH_take (i:=10) (v:=(.agg #[.slice A3 n3 c3,s.at_])) rfl (by kernel_rfl) (by kernel_rfl) (by kernel_rfl) (fun _ _ _ h=>h) (Or.inl ⟨by kernel_rfl,by(intro w ag;go_simp)⟩) af ?_
   try simp only[List.getElem_toArray,List.getElem_cons_zero,List.getElem_cons_succ,Act.put,List.setIfInBounds_toArray,List.set_cons_zero,List.set_cons_succ]
   refine wpAnyH_ready (rs:=[12]) (by kernel_rfl) (by simp) ?_)
 refine AllReadyH.cons rfl (fun K hK=>?_) AllReadyH.nil
 first
  |(
   guard_hyp N1
   refine C8 rfl 19 #[.agg #[.slice A3 n3 c3,s.at_],.agg #[.slice A5 n5 c5,s.at_]] rfl (by kernel_rfl) (fun v w'=>v=.bool true∧An w13 w') (HS.out.mono fun e w' hg=>⟨_,hg.1,rfl,hg.2⟩) ?_)
  |(
   refine M6 (by kernel_rfl) 19 #[.agg #[.slice A3 n3 c3,s.at_],.agg #[.slice A5 n5 c5,s.at_]] rfl (by kernel_rfl) (fun v w'=>v=.bool true∧An w13 w') (HS.out.mono fun e w' hg=>⟨_,hg.1,rfl,hg.2⟩) ?_)
 rintro v w14 ⟨rfl,aR⟩;have fl:=m8.trans aR;refine hK.out _ _ fl (fun bb=>?_)
 clear hK K af
 try simp only[List.getElem_toArray,List.getElem_cons_zero,List.getElem_cons_succ,Act.put,List.setIfInBounds_toArray,List.set_cons_zero,List.set_cons_succ]
 first
  |(
   guard_hyp N1
   refine Bf (i:=5) (v:=(.bool true)) rfl bb ?_)
  |(
   refine Bf (i:=13) (v:=(.bool true)) rfl bb ?_
   refine Bf (i:=14) (v:=(.bool true)) rfl bb ?_)
 refine wpAnyH_done (by kernel_rfl) ?_ _
 have dq:=AV.out.trans aR;go_wp2_with fail
 go_ret
 exact⟨rfl,dq⟩):p:=h
end
