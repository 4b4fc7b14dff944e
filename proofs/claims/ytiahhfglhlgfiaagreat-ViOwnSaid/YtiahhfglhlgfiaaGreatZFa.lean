/-
  Part ZFa.
-/
import Derived.OwnWalk
import Derived.IntWalk
import Derived.Deep.Cut
import Derived.Deep.QuietTactic
import Derived.Deep.RegionHeld3
import Derived.Deep.RegionWith
set_option maxRecDepth 100000
set_option maxHeartbeats 16000000
set_option linter.unusedVariables false
set_option linter.unusedSimpArgs false
namespace Go.Proofs.YtiahhfglhlgfiaaGreat
open Go.RowKit
section
variable {p:Prop}
theorem I0 (h:p:=by
 obtain rfl:f=0:=by have:=HF2.out;omega
 go_wp2_with fail
 refine HT.out.mono ?_
 rintro e w2 ⟨u,L,m,z,rfl,hO,hLi,hL0,he2⟩;obtain⟨O',n',c',S',sn',sc',P',pn',pc',rfl,hOr⟩:=hO;have B62:=A4 (An.ext B6.out he2);obtain⟨d0,d1,d2,d3,d4,d5⟩:=Cg B62.out;obtain⟨f0,f1,f2,f3,f4,f5⟩:=Du B62.out;have hlt1:w.heap.size+1<w1.heap.size:=by omega
 have HO6:=A4 (Gk (show D3 w2 w1.heap.size _ _ from⟨O',n',c',S',sn',sc',P',pn',pc',rfl,hOr⟩) hlt1 (.slice O' n' c') (.int .i64 mo) (.int .i64 ((0:Nat):Int)) (.slice S' sn' sc') (.slice P' pn' pc') (.bool ol))
 have HL6:=A4 (Hh hLi hlt1 (.slice O' n' c') (.int .i64 mo) (.int .i64 ((0:Nat):Int)) (.slice S' sn' sc') (.slice P' pn' pc') (.bool ol));have HX6:=A4 (Em (hx1.out.trans he2) (show w.heap.size≤w.heap.size+1 by omega) (.slice O' n' c') (.int .i64 mo) (.int .i64 ((0:Nat):Int)) (.slice S' sn' sc') (.slice P' pn' pc') (.bool ol))
 have hf6:=A4 (En B62.out (.slice O' n' c') (.int .i64 mo) (.int .i64 ((0:Nat):Int)) (.slice S' sn' sc') (.slice P' pn' pc') (.bool ol));have HL0:=A4 hL0;unfold Pg at HO6 HL6 HX6 hf6;clear hOr hLi hL0 he2 HT;unfold Ce;simp only[toH];go_wp2_with fail
 refine bodyPost_ret (v:=.tuple #[.agg (Ce O' n' c' mo ((0:Nat):Int) S' sn' sc' P' pn' pc' ol),.slice L m z,.int .i64 0]) ?_ rfl ⟨HX6.out,.inl ⟨hok.out,_,L,m,z,rfl,?_,?_,HL0.out⟩⟩
 ·exact Dm rfl _ _ (w.heap.size+1) 54 _ _ _ _ _ rfl rfl rfl hf6.out Tryz.underlying54 rfl (Ek rfl)
 ·rw[HF1.out]
  exact HO6.out.lower (by omega)
 ·rw[HF1.out]
  exact Ay.lower HL6.out (by omega)):p:=h
theorem I1 (h:p:=by
 have HE:Hid (∀wq,Al wr wq→Db wq c8 p v8 (Cx s0 l)∧Kp w col wq c8∧∀k,k<w.heap.size→col k=4∨col k=5∨col k=6→wq.heap[k]? = w.heap[k]? ∧ c8 k=0):=A4 fun wq he=>⟨hm8.ext he,HT2.out.trans (ht8.trans ⟨he.alt _,fun _ _ h=>h,fun _ _ h=>h⟩),fun k hk hc=>jC HK2.out HZW.out ht8 he k hk hc⟩
 clear hm8 ht8;go_upto_region 14 with fail
 refine wp_region_held_drew (S:=fun w'=>Al wr w') (by kernel_rfl) (Al.drew wr) (fun hS=>?_)
 refine B8 (i:=0) (v:=(.pointer (some ⟨p,0,none⟩))) rfl hS ?_
 refine B8 (i:=1) (v:=(.pointer (some ⟨p,0,none⟩))) rfl hS ?_
 refine B8 (i:=2) (v:=(.pointer (some ⟨p,56,none⟩))) rfl hS ?_
 refine F4 (i:=3) (v:=v8.told) rfl (fun w' hSw=>by have e0:w'.cell? ⟨p,56,none⟩=some v8.told:=(HE.out w' hSw).1.ses.blk.cell 56;go_simp) hS ?_
 refine B8 (i:=4) (v:=(.pointer (some ⟨p,0,none⟩))) rfl hS ?_
 refine B8 (i:=5) (v:=(.pointer (some ⟨p,0,none⟩))) rfl hS ?_
 refine B8 (i:=6) (v:=(.pointer (some ⟨p,57,none⟩))) rfl hS ?_
 refine F4 (i:=7) (v:=v8.vis) rfl (fun w' hSw=>by have e0:w'.cell? ⟨p,57,none⟩=some v8.vis:=(HE.out w' hSw).1.ses.blk.cell 57;go_simp) hS ?_
 refine B8 (i:=8) (v:=v8.told) rfl hS ?_
 refine B8 (i:=9) (v:=v8.vis) rfl hS ?_
 refine B8 (i:=10) (v:=(.int .i64 0)) rfl hS ?_
 refine wpAnyH_done (by kernel_rfl) ?_ _
 go_wp2_with fail
 go_ret3
 exact⟨c8,v8,rfl,(HE.out _ hS).1,(HE.out _ hS).2.1,(HE.out _ hS).2.2⟩):p:=h
theorem I2 (h:p:=by
 go_wp2_with fail
 refine bodyPost_ret (v:=.tuple #[.agg Dj,.slice none 0 0,.int .i64 5]) ?_ rfl ⟨HX.out,.inr ⟨hno.out,5,rfl,by omega⟩⟩
 exact Dm rfl _ _ (w.heap.size+1) 54 _ _ _ _ _ rfl rfl rfl hfin.out Tryz.underlying54 rfl (Ek rfl)):p:=h
theorem I3 (h:p:=by
 exact Dm rfl _ _ (w.heap.size+1) 54 _ _ _ _ _ rfl rfl rfl hfin.out Tryz.underlying54 rfl (Ek rfl)):p:=h
theorem I135 (h:p:=by
 have:=Ay.setCell (Ay.setCell hO2 (p:=⟨g,1,none⟩) (Nat.lt_succ_self g) (.slice O2 (q+1) d2)) (p:=⟨g,0,none⟩) (Nat.lt_succ_self g) (.slice none 0 0)
 simpa[Av]using this):p:=h
theorem I136 (h:p:=by
 clear hO2 hgr hor hx3 hb5 hb6 hb7 hO5 hown hne k0 k1 hE5;go_wp2_with fail
 go_end0
 exact⟨rfl,by rw[HR.out];exact HF.out,HX.out⟩):p:=h
theorem I4 (h:p:=by
 have f4:=hb6.frozen 0;have c6:=hb6.cell 0;simp only[List.getElem?_toArray,List.getElem?_cons_zero,List.getElem?_cons_succ]at c6;have hb7:An ((w5.setCell ⟨g,1,none⟩ (.slice O2 (q+1) d2)).setCell ⟨g,0,none⟩ (.slice none 0 0)) g 83 #[.slice none 0 0,.slice O2 (q+1) d2]:=by simpa using hb6.set_ 0 (.slice none 0 0)
 have hO5:Av ((w5.setCell ⟨g,1,none⟩ (.slice O2 (q+1) d2)).setCell ⟨g,0,none⟩ (.slice none 0 0)) (g+1) O2 (q+1) d2 (out++[(gc:Int)]):=by
  exact I135
 have HX:=A4 ((hx3.setCell (p:=⟨g,1,none⟩) hg (.slice O2 (q+1) d2)).setCell (p:=⟨g,0,none⟩) hg (.slice none 0 0));have HF:Hid (Es ((w5.setCell ⟨g,1,none⟩ (.slice O2 (q+1) d2)).setCell ⟨g,0,none⟩ (.slice none 0 0)) g ⟨[],out++[(gc:Int)]⟩):=A4 ⟨none,0,0,O2,q+1,d2,hb7,Ay.nil _ _ _ _,hO5⟩;exact I136):p:=h
theorem I5 (h:p:=by
 exact Dm rfl _ _ (w.heap.size+1) 54 _ _ _ _ _ rfl rfl rfl hf6.out Tryz.underlying54 rfl (Ek rfl)):p:=h
theorem I6 (h:p:=by
 exact Dx rfl _ _ (w.heap.size+1) 87 _ _ _ _ rfl rfl (sW _ _ _ _ _) Tryz.underlying87 rfl (by kernel_rfl)):p:=h
theorem I7 (h:p:=by
 clear hz;go_enter Tryz.func154,Tryz.ntmps154
 go_wp2_with fail
 refine(H.out _ hx0).mono ?_
 rintro e w1 ⟨rfl,he1⟩;have hq2:=hb2.ext he1;have hq1:=hb1.ext he1;have HB:=A4 hq2;have HE:=A4 (hx0.trans he1);have c0:=hq2.cell 0;have c1:=hq2.cell 1;have f0:=hq2.frozen 0;have f1:=hq2.frozen 1;have d0:=hq1.cell 0;have d1:=hq1.cell 1;have d2:=hq1.cell 2;have d3:=hq1.cell 3;simp only[List.getElem?_toArray,List.getElem?_cons_zero,List.getElem?_cons_succ]at c0 c1 d0 d1 d2 d3;clear hb2 hb1 hx0 he1 hq1 hq2;go_wp2_with fail
 all_goals first
  |(exfalso;have:=HZ.out;omega)
  |(
   obtain⟨c6,c7,hx,hx1,hx2⟩:=D0 HB.out HE.out (by simp)
   refine bodyPost_ret (by simp[results,Tryz.results154,go_sem,c6,c7];try rfl) rfl ?_
   refine⟨rfl,by first|exact hx _ _|exact HE.out|exact hx1 _|exact hx2 _⟩)):p:=h
theorem I8 (h:p:=by
 match i,hi with
 |0,_=>rfl|1,_=>rfl|2,_=>rfl|3,_=>rfl|4,_=>rfl|5,_=>rfl|6,_=>rfl|7,_=>rfl|8,_=>rfl|9,_=>rfl|10,_=>rfl|11,_=>rfl|12,_=>rfl|13,_=>rfl|14,_=>rfl|15,_=>rfl|16,_=>rfl|17,_=>rfl|18,_=>rfl|19,_=>rfl|20,_=>rfl|21,_=>rfl|22,_=>rfl|23,_=>rfl|24,_=>rfl|25,_=>rfl|26,_=>rfl
 |j+27,h=>exact absurd h (by omega)):p:=h
theorem I140 (h:p:=by
 simpa using(hb0.set_ 0 (.int .i64 0)).set_ 1 (.int .i64 0)):p:=h
theorem I9 (h:p:=by
 subst h0;have f0:=hb0.frozen 0;have f1:=hb0.frozen 1;have c4:=hb0.cell 0;have c5:=hb0.cell 1;simp only[List.getElem?_toArray,List.getElem?_cons_zero,List.getElem?_cons_succ]at c4 c5;go_wp2_with fail
 have hbf:An ((wr.setCell ⟨w.heap.size,0,none⟩ (.int .i64 0)).setCell ⟨w.heap.size,1,none⟩ (.int .i64 0)) w.heap.size 213 #[.int .i64 0,.int .i64 0]:=by
  exact I140
 have c6:=hbf.cell 0;have c7:=hbf.cell 1;simp only[List.getElem?_toArray,List.getElem?_cons_zero,List.getElem?_cons_succ]at c6 c7;clear c4 c5 f0 f1;refine bodyPost_ret (by simp[results,Tryz.results138,go_sem,c6,c7];try rfl) rfl ?_
 exact⟨.inr ⟨fun j h1=>hall.out j (Nat.zero_le _) h1,rfl⟩,(he.setCell (by simp) _).setCell (by simp) _⟩):p:=h
theorem I10 (h:p:=by
 have HXE:=A4 (HX6.out.setRow (show w.heap.size≤w.heap.size+1 by omega) ds3)
 have Hres:=A4 hres;clear hres HI6 HP HX6;go_wp2_with (first|(refine wpList_load_row rfl 40 (.tmp 11) rfl g rfl 40 ds3 (0,0) _ HG.out Tryz.underlying40 rfl (Cu hd3) ?_)|(refine wpList_store_row rfl 40 (.tmp 6) (.tmp 57) rfl (w.heap.size+1) ds3 rfl rfl 40 Bw HB6.out (Cu hd3) hns3 hone3 ?_))
 refine bodyPost_ret (v:=.tuple #[.agg ds3,.int .i64 0]) ?_ rfl ⟨ds3,rfl,HE.out,HXE.out⟩
 exact Dx rfl _ _ (w.heap.size+1) 40 _ _ _ _ rfl rfl Hres.out Tryz.underlying40 rfl (Cu hd3)):p:=h
theorem I11 (h:p:=by
 clear hb;go_enter Tryz.func81,Tryz.ntmps81
 go_wp2_with fail
 go_ret
 exact⟨1,rfl,HB.out,Al.alloc _ _⟩):p:=h
theorem I12 (h:p:=by
 go_enter Tryz.func158,Tryz.ntmps158
 go_wp2_with fail
 go_ret2
 exact⟨rfl,rfl⟩):p:=h
theorem I13 (h:p:=by
 go_enter Tryz.func75,Tryz.ntmps75
 go_wp2_with fail
 go_ret
 exact⟨rfl,rfl⟩):p:=h
theorem I14 (h:p:=by
 go_enter Tryz.func98,Tryz.ntmps98
 go_wp2_with fail
 go_ret2
 exact⟨rfl,rfl⟩):p:=h
theorem I15 (h:p:=by
 have c6:=hbf.cell 0;have c7:=hbf.cell 1;simp only[List.getElem?_toArray,List.getElem?_cons_zero,List.getElem?_cons_succ]at c6 c7;clear c4 c5 f0 f1;refine bodyPost_ret (by simp[results,Tryz.results138,go_sem,c6,c7];try rfl) rfl ?_
 exact⟨.inl ⟨q,b,⟨by omega,by rw[hlen.out];exact hq,HQ.out,HB.out,by omega,hb2,fun j h1 h2 h3 h4=>hall.out j h1 h2 h3 h4⟩,rfl⟩,(he.setCell (by simp) _).setCell (by simp) _⟩):p:=h
theorem I16 (h:p:=by
 unfold Oper.wp;rw[hrun,Oper.upon_enter];refine hc.mono fun e w' hh=>?_
 obtain⟨v,rfl,hR⟩:=hh;exact h v w' hR):p:=h
theorem I17 (h:p:=by
 go_enter Tryz.func101,Tryz.ntmps101
 go_wp2_with fail
 go_ret
 exact⟨rfl,rfl⟩):p:=h
theorem I18 (h:p:=by
 have hg:=Zc k1 [];rw[List.append_nil,←k2]at hg;refine⟨trivial,fun x hx=>?_,by simp⟩
 simp only[List.nil_append,List.cons_append,List.mem_singleton]at hx;subst hx;rw[hg];exact k1):p:=h
theorem I139 (h:p:=by
 clear hw;rcases hwt with rfl|rfl|rfl|rfl|rfl<;>exact yA hx HL HO):p:=h
theorem I19 (h:p:=by
 rcases ho with rfl|⟨ho0,ho⟩
 ·have hs0:s=0:=by have h6:=h5 rfl;omega
  subst hs0;exact I139
 ·have hob:(o !=0)=true:=by simpa using ho0
  have hoc:(o==0)=false:=by simpa using ho0
  rw[ho]at HO;exact I139):p:=h
theorem I20 (h:p:=by
 go_wp2_with fail
 have hbf:=HBF.out 0 false;have c6:=hbf.cell 0;have c7:=hbf.cell 1;simp only[List.getElem?_toArray,List.getElem?_cons_zero,List.getElem?_cons_succ]at c6 c7;clear c4 c5 f0 f1 c0 c1 hbf;refine bodyPost_ret (by simp[results,Tryz.results155,go_sem,c6,c7];try rfl) rfl ?_
 exact⟨.inr ⟨HN.out,rfl⟩,HEF.out _ _⟩):p:=h
theorem I21 (h:p:=by
 obtain⟨i,hi,rfl⟩:=List.mem_iff_getElem.1 hu;have hxl:=ho.len;obtain⟨a,k1,k2,_⟩:=hp (i/2) (by omega)
 rcases(show i=i/2*2∨i=i/2*2+1 by omega)with e|e
 ·rw[←e,List.getElem?_eq_getElem hi]at k1
  injection k1 with k1;rw[k1];rfl
 ·rw[←e,List.getElem?_eq_getElem hi]at k2
  injection k2 with k2;rw[k2];rfl):p:=h
theorem I22 (h:p:=by
 intro B2 d2 w2 hO2 hgr hor hx2;have HX2:=A4 hx2;have HO2:Hid (Av w2 w.heap.size B2 (i+1) d2 (M.take (i+1))):=A4 (by rw[HMs.out i hlt];simpa[Av]using hO2)
 clear hx2 hO2 hgr hor hown hxx HO HX HXs hci;go_wp2_with fail
 go_roundw
 case rel=>exact⟨i+1,d2,B2,by omega,by go_num,rfl,HO2,HX2⟩
 case measure=>simp[intOf];omega):p:=h
theorem I23 (h:p:=by
 go_enter Tryz.func118,Tryz.ntmps118
 go_wp2_with fail
 go_ret
 exact⟨rfl,rfl⟩):p:=h
theorem I24 (h:p:=by
 go_enter Tryz.func100,Tryz.ntmps100
 go_wp2_with fail
 go_ret
 exact⟨rfl,rfl⟩):p:=h
theorem I25 (h:p:=by
 rw[e1,e2];clear e1 e2;go_enter Tryz.func99,Tryz.ntmps99
 go_wp2_with fail
 go_ret2
 exact⟨qH rfl (vR (by simp)),rfl⟩):p:=h
theorem I26 (h:p:=by
 have c6:=hbf.cell 0;have c7:=hbf.cell 1;simp only[List.getElem?_toArray,List.getElem?_cons_zero,List.getElem?_cons_succ]at c6 c7;clear c4 c5 f0 f1 hbf;refine bodyPost_ret (by simp[results,Tryz.results139,go_sem,c6,c7];try rfl) rfl ?_
 exact⟨.inl ⟨f,j,HF.out,rfl⟩,HEF.out _ _⟩):p:=h
theorem I27 (h:p:=by
 go_wp2_with fail
 go_ret3
 obtain⟨rfl,rfl,rfl⟩:=HA.out;exact⟨rfl,rfl⟩):p:=h
theorem I28 (h:p:=by
 go_wp2_with fail
 refine HA.out.mono ?_
 rintro e w1 ⟨rfl,hd⟩;have HR:=A4 hd;clear hd HA;go_wp2_with fail
 go_end0
 exact⟨rfl,HR.out⟩):p:=h
theorem I29 (h:p:=by
 clear HE;go_enter Tryz.func73,Tryz.ntmps73
 go_wp2_with fail
 go_ret
 exact⟨Fm (by rw[hE.out]),rfl⟩):p:=h
theorem I30 (h:p:=by
 go_wp2_with fail
 go_ret
 exact⟨Fm (by rw[hE.out]),rfl⟩):p:=h
theorem I31 (h:p:=by
 go_enter Tryz.func83,Tryz.ntmps83
 go_wp2_with fail
 go_ret
 exact⟨rfl,HEnd.out _ _ rfl rfl⟩):p:=h
theorem I32 (h:p:=by
 cases hb:(Value.slice B2 m q2).ownBlock with
 |none=>exact .inl rfl
 |some g=>exact .inr (fun e=>by
  have h1:=hn0 g hb;rcases hor with h2|⟨g',h2,h3⟩
  ·rw[h2]at e;have:=hOb g e.symm;omega
  ·rw[h3]at e;injection e with e;omega)):p:=h
theorem I33 (h:p:=by
 have hq':tmps[q]?.getD undef=.pointer (some ⟨g',0,none⟩):=by simpa using hq
 have hr':tmps[r]?.getD undef=v:=by simpa using hr
 simp[results,h,hp',hq',hr',asAddr,run_loadVar_row w g t ty cs fr d hg hu hd hi,run_loadVar_row w g' t' ty' cs' fr' d' hg' hu' hd' hi']):p:=h
theorem I34 (h:p:=by
 rw[hl,hr];by_cases he:l.length-l.length/2-1=l.length/2
 ·rw[he];omega
 ·have:=Xo f (l.length/2-1) (by omega)
  rw[show l.length/2-1+1=l.length/2 by omega,show l.length/2-1=l.length-l.length/2-1 by omega]at this
  omega):p:=h
theorem I35 (h:p:=by
 rw[e1,e2];clear e1 e2;go_enter Tryz.func99,Tryz.ntmps99
 go_wp2_with fail
 go_ret2
 exact⟨rfl,rfl⟩):p:=h
theorem I36 (h:p:=by
 exact⟨h3.trans g3.symm,h4.trans g4.symm,h2.trans g2.symm⟩):p:=h
theorem I37 (h:p:=by
 injection h with h;injection h with h1 h2;subst h1;subst h2;simp;omega):p:=h
theorem I38 (h:p:=by
 have hq':tmps[q]?.getD undef=v:=by simpa using hq
 simp[results,h,hp',hq',asAddr,run_loadVar_row w g t ty cs fr d hg hu hd hi]):p:=h
theorem I39 (h:p:=by
 go_enter Tryz.func28,Tryz.ntmps28
 go_wp2_with fail
 refine HB.out.mono ?_
 rintro e w1 ⟨rfl,hd⟩;have HR:=A4 hd;clear hd HB;go_wp2_with fail
 go_end0
 exact⟨rfl,HR.out⟩):p:=h
theorem I40 (h:p:=by
 go_wp2_with fail
 exact⟨⟨j+1,by omega,by go_num,by rw[HV.out],HN.out hh.out,trivial⟩,by simp[intOf]<;>omega⟩):p:=h
theorem I41 (h:p:=by
 go_enter Tryz.func92,Tryz.ntmps92
 go_wp2_with fail
 go_ret
 exact⟨rfl,hx.out⟩):p:=h
theorem I42 (h:p:=by
 exact⟨Sm,by simp[Er],fun _=>rfl,by simp[Er]⟩):p:=h
theorem I43 (h:p:=by
 rw[Bq (by omega)]at h34
 obtain⟨h1,v,h2,h3⟩:=h.far B q d h34 g' hg';exact⟨fun j hj v hv=>by rw[Bq (by omega)]at hv;exact h1 j hj v hv,v,by rw[Bq (by omega)];exact h2,h3⟩):p:=h
theorem I44 (h:p:=by
 obtain rfl:l=[]:=List.eq_nil_of_length_eq_zero hl.len;clear hl;go_enter Tryz.func102,Tryz.ntmps102
 go_wp2_with fail
 go_ret
 exact⟨none,rfl,rfl,Al.refl _⟩):p:=h
theorem I45 (h:p:=by
 have hlt:gI (D6 l) q<k:=by omega
 have HL:=A4 hlt;clear hge;go_wp2_with fail
 exact⟨⟨q,by omega,by omega,by go_num,hnx.out (fun _=>HL.out),trivial⟩,by simp[intOf]<;>omega⟩):p:=h
theorem I46 (h:p:=by
 rw[z4]at h5;exact⟨_,rfl,(((x1.trans x2).trans x3).trans x4).trans x5,An.ext h1 (((x2.trans x3).trans x4).trans x5),An.ext h2 ((x3.trans x4).trans x5),An.ext h3 (x4.trans x5),An.ext h4 x5,h5⟩):p:=h
theorem I47 (h:p:=by
 rcases h with⟨_,h1,_⟩|⟨_,h1,_⟩|⟨_,h1,_⟩|⟨_,h1,_⟩|⟨_,h1,_⟩<;>omega):p:=h
theorem I48 (h:p:=by
 simpa using((hq3.keepCell2 (p:=⟨w1.heap.size,1,none⟩) n1 (.int .i64 (Cb l (Cb l k big) big))).set_ 0 (.int .i64 (Di l k big))).set_ 1 (.int .i64 (Cb l (Cb l k big) big))):p:=h
theorem I49 (h:p:=by
 have h:=bits_and_u64_nat a 4294967295 (by omega) (by omega)
 have e:a&&&4294967295=a%4294967296:=Nat.and_two_pow_sub_one_eq_mod a 32;rw[e,Nat.mod_eq_of_lt ha]at h;exact h):p:=h
theorem I50 (h:p:=by
 by_cases hji:i=j
 ·subst hji
  rw[Gj (by rw[h.1.1];exact hi)]at hk
  exact fun e=>hne (by rw[hk,e])
 ·rw[Jh hji]at hk
  exact h.2.2 j k hk):p:=h
theorem I51 (h:p:=by
 simp only[Gd,Array.getElem?_append,Array.size_append,hr,List.size_toArray,List.length_cons,List.length_nil];rw[if_pos (by omega),if_pos (by omega),if_pos (by omega)]
 rfl):p:=h
theorem I52 (h:p:=by
 go_enter Tryz.func40,Tryz.ntmps40
 go_wp2_with fail
 refine HC.out.mono ?_
 rintro e w' ⟨rfl,rfl⟩;go_wp2_with fail
 go_ret2
 exact⟨rfl,rfl⟩):p:=h
theorem I53 (h:p:=by
 exact Wt (by simp) ⟨h1,h2⟩ ⟨h3,h4⟩ w):p:=h
theorem I54 (h:p:=by
 have hob:(o !=0)=true:=by simpa using ho0
 have hoc:(o==0)=false:=by simpa using ho0
 rw[ho]at HO;clear hw;rcases hwt with rfl|rfl<;>exact yA hx HL HO):p:=h
theorem I55 (h:p:=by
 obtain⟨hi1,hi2⟩:=hi;go_enter Tryz.func156,Tryz.ntmps156
 go_wp2_with fail
 go_ret3
 exact⟨mB (by omega),rfl⟩):p:=h
theorem I56 (h:p:=by
 cases hf:Jd l arg k g with
 |none=>rw[hf]at h;simp at h
 |some j=>rw[hf]at h;simp at h;have:=Qe hf;obtain⟨rfl,rfl⟩:=h;simp;omega):p:=h
theorem I57 (h:p:=by
 have:(⟨w.heap.size,0,none⟩:Addr).add j=⟨w.heap.size,j,none⟩:=by simp[Addr.add_lit]
 rw[this,(An.new w t xs.toArray).cell j]
 simpa using hu):p:=h
theorem I58 (h:p:=by
 cases hb:(Value.slice B2 m q2).ownBlock with
 |none=>exact .inl rfl
 |some g=>exact .inr (fun e=>by have h1:=hn0 g hb;have h2:=hOb g e.symm;omega)):p:=h
theorem I59 (h:p:=by
 unfold doS;rcases hd with⟨h1,h2,h3⟩|⟨d,h1,h2,h3⟩
 ·exact⟨_,h2,by rw[h1];exact h3⟩
 ·exact⟨_,h2,by rw[h1];exact h3⟩):p:=h
theorem I60 (h:p:=by
 cases hf:Hc l arg (l.length-(k+1)) (k+1) g with
 |none=>rw[hf]at h;simp at h
 |some j=>rw[hf]at h;simp at h;have:=Qd hf;omega):p:=h
theorem I61 (h:p:=by
 exact J6 rfl _ _ (w.heap.size+1) 54 _ _ _ _ rfl rfl hfin.out Tryz.underlying54 rfl (Ek rfl)):p:=h
theorem I62 (h:p:=by
 rcases h.part x hx with h2|⟨m,h2,h3,_⟩<;>omega):p:=h
theorem I63 (h:p:=by
 exact Fo rfl _ _ (w.heap.size+1) 34 _ _ _ _ rfl rfl HF.out Tryz.underlying34 rfl (Ng rfl)):p:=h
theorem I64 (h:p:=by
 subst hji;exact⟨v,by rw[Array.getElem?_setIfInBounds_self,if_pos (by rw[h.1.1];exact hi)],by rw[if_pos rfl];exact hv.setCell_ne hne _⟩):p:=h
theorem I65 (h:p:=by
 go_wp2_with fail
 go_roundw
 case rel=>exact⟨j+1,cnt,by omega,by omega,by go_num,hb3,hst3,he2⟩
 case measure=>simp[intOf];omega):p:=h
theorem I66 (h:p:=by
 cases ar
 ·exact⟨_,_,rfl,rfl,by simp;omega,by simpa using a3⟩
 ·exact⟨_,_,rfl,rfl,by simp;omega,by simpa using b3⟩):p:=h
theorem I67 (h:p:=by
 rw[e,List.length_cons,show K+(ks.length+1)=K+1+ks.length by omega,show T+(ks.length+1)=T+1+ks.length by omega]
 exact h1):p:=h
theorem I68 (h:p:=by
 have hg:=he.good (by omega) (by omega)
 rw[hl]at hg;exact⟨by omega,by omega,fun _=>by omega,fun h=>absurd hd h,hg.1,hg.2⟩):p:=h
theorem I69 (h:p:=by
 go_wp2_with fail
 go_quiet (fail)
 go_wp2_with fail
 go_meet
 exact⟨j,hkj,hjy,rfl,HN2,z'+nq,by first|exact No _ _ _|rfl⟩):p:=h
theorem I70 (h:p:=by
 cases ar
 ·exact⟨f+1,t,by simp,by simp,by omega,by omega⟩
 ·exact⟨f,t+1,by simp,by simp,by omega,by omega⟩):p:=h
theorem I71 (h:p:=by
 go_wp2_with fail
 go_quiet (fail)
 go_wp2_with fail
 go_meet
 exact⟨k,hxk,hky,rfl,HN2,z+nq,by first|exact No _ _ _|rfl⟩):p:=h
theorem I72 (h:p:=by
 clear hd;by_cases ho:o=0
 ·subst ho
  exact Km hz hop
 ·have hob:(o==0)=false:=by simpa using ho
  exact Km hz hop):p:=h
theorem I73 (h:p:=by
 go_wp2_with fail
 go_quiet (fail)
 go_wp2_with fail
 go_meet
 exact⟨k,hk,rfl,HT,HN2,z+nq,by first|exact No _ _ _|rfl⟩):p:=h
theorem I74 (h:p:=by
 go_wp2_with fail
 go_end0
 refine⟨rfl,?_⟩
 rw[HF.out];exact HR.out):p:=h
theorem I75 (h:p:=by
 rw[if_neg e]at hg';exact Nat.lt_of_lt_of_le (h.ses.dom g hg') ha4.size):p:=h
theorem I76 (h:p:=by
 exact⟨Sm,by simp,fun _=>rfl,by simp⟩):p:=h
theorem I77 (h:p:=by
 rintro rfl;rcases hown'.2 with⟨hv,_⟩|⟨g,cap,cur,hv,_⟩
 ·injection hv
 ·injection hv with h1;cases h1):p:=h
theorem I78 (h:p:=by
 rcases h2.2 with⟨rfl,h0'⟩|⟨g,cap,cur,rfl,_⟩
 ·exact⟨none,0,by rw[h0']⟩
 ·exact⟨_,_,rfl⟩):p:=h
theorem I79 (h:p:=by
 go_wp2_with fail
 go_ret
 exact(HM.out.ext HX3.out).fail (by decide) (fun h=>by have:=h.1;rw[HE.out]at this;cases this)):p:=h
theorem I80 (h:p:=by
 rintro rfl;rcases h.2 with⟨hv,_⟩|⟨g',cap,cur,hv,_⟩
 ·injection hv
 ·injection hv with h _ _;cases h):p:=h
theorem I81 (h:p:=by
 go_enter Tryz.func63,Tryz.ntmps63
 go_wp2_with fail
 go_ret
 exact⟨rfl,rfl⟩):p:=h
theorem I82 (h:p:=by
 go_enter Tryz.func125,Tryz.ntmps125
 go_wp2_with fail
 go_ret
 exact⟨rfl,rfl⟩):p:=h
theorem I83 (h:p:=by
 go_enter Tryz.func46,Tryz.ntmps46
 go_wp2_with fail
 go_ret
 exact⟨rfl,rfl⟩):p:=h
theorem I84 (h:p:=by
 have h:=dA (G0 bs) wq
 rwa[Re Hlt.out]at h):p:=h
theorem I85 (h:p:=by
 simp only[Jz,Ce]at this;injection this with x1 x2;exact⟨Option.some.inj x1,Option.some.inj x2⟩):p:=h
theorem I86 (h:p:=by
 have:m=m':=hm.trans gm.symm;subst this;exact⟨rfl,ha.trans ga.symm,hd.trans gd.symm,he.one ge⟩):p:=h
theorem I87 (h:p:=by
 rintro e w' ⟨⟨o,ho,rfl⟩,h4⟩;exact⟨⟨o,by unfold Ya;rw[hf];simpa using ho,rfl⟩,h4⟩):p:=h
theorem I88 (h:p:=by
 have:=Ay.setCell hA2 (p:=⟨g,0,none⟩) (Nat.lt_succ_self g) (.slice A2 1 c4)
 simpa[bv]using this):p:=h
theorem I89 (h:p:=by
 rcases e with e|rfl
 ·rw[hg g e];exact fun e=>h1 e.symm
 ·rw[h7];exact fun e=>h2 e.symm):p:=h
theorem I90 (h:p:=by
 go_wp2_with fail
 refine bodyPost_ret (results_none rfl _ _ _) rfl ⟨rfl,?_⟩
 rw[HF.out];exact H1.out):p:=h
theorem I91 (h:p:=by
 rw[HP.out];unfold Jx;rw[if_neg hnb];exact if_pos h):p:=h
theorem I92 (h:p:=by
 go_wp2_with fail
 go_meet
 exact⟨j,hj,rfl,HD,HN2,z'+nq,by first|exact No _ _ _|rfl⟩):p:=h
theorem I93 (h:p:=by
 unfold An at h ⊢;unfold World.setCell;simp only[Array.getElem?_modify];rw[if_neg hp];exact h):p:=h
theorem I94 (h:p:=by
 exact⟨k+1,by omega,by omega,by congr 1;omega,fun j h1 h2 h3=>absurd h2 (by omega),rfl⟩):p:=h
theorem I95 (h:p:=by
 subst hm;go_wp2_with fail
 go_ret2
 exact⟨by rw[←HF.out,HS.out,if_pos HZ.out];rfl,hx0⟩):p:=h
theorem I96 (h:p:=by
 split
 ·rw[List.length_replicate];omega
 ·rw[List.length_cons,List.length_take];omega):p:=h
theorem I97 (h:p:=by
 rw[hl]at hg;exact⟨by omega,by omega,fun _=>by omega,fun h=>absurd rfl h,hg.1,hg.2⟩):p:=h
theorem I98 (h:p:=by
 rw[show 36+(k-36)=k by omega]at hu
 rw[hu]at hv;injection hv with hv;subst hv;rfl):p:=h
theorem I99 (h:p:=by
 unfold An at h ⊢;unfold World.setCell;simp only[Array.getElem?_modify,hp,if_false,h]):p:=h
theorem I100 (h:p:=by
 go_wp2_with fail
 all_goals
  go_meet
  exact⟨by have:=HH.out;congr 2;omega,rfl⟩):p:=h
theorem I101 (h:p:=by
 rw[h'];intro e;injection e with e;have:w1.drew.heap.size=w1.heap.size:=rfl;omega):p:=h
theorem I102 (h:p:=by
 obtain⟨u,h1,h2⟩:=hO.2 j hj;rw[Na h1]at hk;have:=(h2.blk k hk).2;omega):p:=h
theorem I103 (h:p:=by
 go_wp2_with fail
 go_ret
 exact⟨⟨_,rfl,.inr ⟨rfl,HN.out⟩⟩,Al.alloc _ _⟩):p:=h
theorem I104 (h:p:=by
 subst hji;exact hy.wpOp hi hT ⟨fun h=>hS (by rwa[getD_set_ne true hfi]at h),H⟩):p:=h
theorem I105 (h:p:=by
 obtain⟨A,n,c,rfl,h1,h2,h3⟩:=h;exact⟨A,n,c,rfl,h1.ext he,h2,h3⟩):p:=h
theorem I106 (h:p:=by
 rw[HTN.out];exact Ay.lower HL6.out (by omega)):p:=h
theorem I107 (h:p:=by
 simpa using(hq.set_ 0 (.int .i64 (Di l k big))).set_ 1 (.int .i64 (Cb l k big))):p:=h
theorem I108 (h:p:=by
 rename_i h;exact⟨Nat.le_refl _,by omega,fun i h1 h2=>by omega,fun _=>h⟩):p:=h
theorem I109 (h:p:=by
 go_wp2_with fail
 refine bodyPost_ret (results_none rfl _ _ _) rfl ⟨rfl,HR.out⟩):p:=h
theorem I110 (h:p:=by
 injection h with h;injection h with h _;omega):p:=h
theorem I111 (h:p:=by
 rw[show #[Value.int .i64 0]=(Value.int .i64 0).cells from rfl,Rh];simp):p:=h
theorem I112 (h:p:=by
 rw[Array.getElem?_setIfInBounds_ne (by omega)]
 exact Ha2.out.2.2 j (by omega)):p:=h
theorem I113 (h:p:=by
 rw[e];exact Wt (Or.inr ⟨by simp,hk⟩) ⟨h1,h2⟩ ⟨h3,h4⟩ w):p:=h
theorem I114 (h:p:=by
 have:=(Array.getElem?_eq_some_iff.1 hv).1;rw[h.size]at this;exact this):p:=h
theorem I115 (h:p:=by
 exact⟨fun _=>h.1,fun h=>(by omega),fun h=>(by omega),by omega⟩):p:=h
theorem I116 (h:p:=by
 have h2:=h.1;rw[h'.2 t ht,h.2 (k-j+t) (by omega)]
 congr 1
 omega):p:=h
theorem I117 (h:p:=by
 exact Km (z:=1) (b:=false) (by simp[Bd,H8,h1,h2]) hop):p:=h
theorem I118 (h:p:=by
 go_wp2_with fail
 go_ret
 exact⟨by rw[hc'.out];rfl,hx.out⟩):p:=h
theorem I119 (h:p:=by
 exact⟨_,_,0,.inl ⟨i,b,h,rfl,by simp,by simp⟩,e⟩):p:=h
theorem I120 (h:p:=by
 subst h2;rw[h.oat]at hv;injection hv with hv;subst hv;rfl):p:=h
theorem I121 (h:p:=by
 rw[h.2.1.cell p];simp[gS,Sl.v,show p<ss.length by omega]):p:=h
theorem I122 (h:p:=by
 exact h1.beg rfl ⟨Ez.nil,Nat.zero_le _⟩ (.inr (.inl rfl))):p:=h
theorem I123 (h:p:=by
 rw[Jh (by omega)]at hk
 exact(HI2.out.blk h2 hk).2):p:=h
theorem I124 (h:p:=by
 obtain⟨q,hq⟩:=hsz.out;exact⟨q,_,_,by rw[hq]⟩):p:=h
theorem I125 (h:p:=by
 intro v hv;obtain⟨_,_,rfl⟩:=List.mem_map.1 hv
 rfl):p:=h
theorem I126 (h:p:=by
 rcases h.part u hul with h2|⟨m,h2,h3,_⟩<;>omega):p:=h
theorem I127 (h:p:=by
 have:=hc _ _ k2;rw[←Kj]at this;exact this):p:=h
theorem I128 (h:p:=by
 rw[List.getElem?_eq_getElem h];exact List.getElem_mem h):p:=h
theorem I129 (h:p:=by
 go_wp2_with fail
 go_end0
 exact⟨rfl,_,_,HR.out⟩):p:=h
theorem I130 (h:p:=by
 rcases sI (big:=big) hk with h|h|h<;>omega):p:=h
theorem I131 (h:p:=by
 exact h.nest x y u v hxy hy' huv hv' hp' hq' he hxu huy):p:=h
theorem I132 (h:p:=by
 rw[h.c65]at hv;injection hv with hv;subst hv;rfl):p:=h
theorem I133 (h:p:=by
 rw[h.c64]at hv;injection hv with hv;subst hv;rfl):p:=h
theorem I134 (h:p:=by
 rw[h.c63]at hv;injection hv with hv;subst hv;rfl):p:=h
theorem I137 (h:p:=by
 clear HX HG hr0 hsc;go_wp2_with fail
 refine(HS.out _).mono ?_
 rintro e w' ⟨rfl,rfl⟩;exact I27):p:=h
theorem I138 (h:p:=by
 go_enter Tryz.func13,Tryz.ntmps13
 exact I28):p:=h
end
