/-
  Part ZFa.
-/
import Derived.OwnWalk
import Derived.IntWalk
import Derived.Deep.Cut
import Derived.Deep.QuietTactic
import Derived.Deep.RegionHeld3
import Derived.Deep.RegionWith
set_option maxRecDepth 100000
set_option maxHeartbeats 16000000
set_option linter.unusedVariables false
set_option linter.unusedSimpArgs false
namespace Go.Proofs.YtkaefdmhlmlhbaaGreat
open Go.RowKit
section
variable {p:Prop}
theorem I0 (h:p:=by
 obtain rfl:f=0:=by have:=fu.out;omega
 go_wp2_with fail
 refine HT.out.mono ?_
 rintro e w2 ⟨u,L,m,z,rfl,hO,j9,ki,au⟩;obtain⟨O',n',c',S',bp,bq,P',bc,pc',rfl,mj⟩:=hO;have B62:=A6 (Aq.ext B6.out au);obtain⟨d0,d1,d2,d3,d4,d5⟩:=Cu B62.out;obtain⟨f0,f1,f2,f3,f4,f5⟩:=Et B62.out;have cd:w.heap.size+1<w1.heap.size:=by omega
 have io:=A6 (J2 (show Dp w2 w1.heap.size _ _ from⟨O',n',c',S',bp,bq,P',bc,pc',rfl,mj⟩) cd (.slice O' n' c') (.int .i64 mo) (.int .i64 ((0:Nat):Int)) (.slice S' bp bq) (.slice P' bc pc') (.bool ol))
 have jp:=A6 (Jt j9 cd (.slice O' n' c') (.int .i64 mo) (.int .i64 ((0:Nat):Int)) (.slice S' bp bq) (.slice P' bc pc') (.bool ol));have dv:=A6 (Fo (ay.out.trans au) (show w.heap.size≤w.heap.size+1 by omega) (.slice O' n' c') (.int .i64 mo) (.int .i64 ((0:Nat):Int)) (.slice S' bp bq) (.slice P' bc pc') (.bool ol))
 have kc:=A6 (Fp B62.out (.slice O' n' c') (.int .i64 mo) (.int .i64 ((0:Nat):Int)) (.slice S' bp bq) (.slice P' bc pc') (.bool ol));have p8:=A6 ki;unfold Rr at io jp dv kc;clear mj j9 ki au HT;unfold Ct;simp only[toH];go_wp2_with fail
 refine bodyPost_ret (v:=.tuple #[.agg (Ct O' n' c' mo ((0:Nat):Int) S' bp bq P' bc pc' ol),.slice L m z,(0:Int)]) ?_ rfl ⟨dv.out,.inl ⟨cw.out,_,L,m,z,rfl,?_,?_,p8.out⟩⟩
 ·exact Ej rfl _ _ (w.heap.size+1) 94 _ _ _ _ _ rfl rfl rfl kc.out Tryz.underlying94 rfl (Fm rfl)
 ·rw[ip.out]
  exact io.out.lower (by omega)
 ·rw[ip.out]
  exact Bd.lower jp.out (by omega)):p:=h
theorem I1 (h:p:=by
 have HE:Hid (∀wq,An wr wq→Dm wq c8 p v8 (Bq s0 l)∧Km w col wq c8∧∀k,k<w.heap.size→col k=4∨col k=5∨col k=6→wq.heap[k]? = w.heap[k]? ∧ c8 k=0):=A6 fun wq he=>⟨nu.ext he,CZ.out.trans (oo.trans ⟨he.alt _,fun _ _ h=>h,fun _ _ h=>h⟩),fun k hk hc=>pG LJ.out HZW.out oo he k hk hc⟩
 clear nu oo;go_upto_region 14 with fail
 refine wp_region_held_drew (S:=fun w'=>An wr w') (by kernel_rfl) (An.drew wr) (fun hS=>?_)
 refine Bf (i:=0) (v:=some p) rfl hS ?_
 refine Bf (i:=1) (v:=some p) rfl hS ?_
 refine Bf (i:=2) (v:=(.pointer (some ⟨p,56,none⟩))) rfl hS ?_
 refine Ga (i:=3) (v:=v8.told) rfl (fun w' ag=>by have e0:w'.cell? ⟨p,56,none⟩=some v8.told:=(HE.out w' ag).1.ses.blk.cell 56;go_simp) hS ?_
 refine Bf (i:=4) (v:=some p) rfl hS ?_
 refine Bf (i:=5) (v:=some p) rfl hS ?_
 refine Bf (i:=6) (v:=(.pointer (some ⟨p,57,none⟩))) rfl hS ?_
 refine Ga (i:=7) (v:=v8.vis) rfl (fun w' ag=>by have e0:w'.cell? ⟨p,57,none⟩=some v8.vis:=(HE.out w' ag).1.ses.blk.cell 57;go_simp) hS ?_
 refine Bf (i:=8) (v:=v8.told) rfl hS ?_
 refine Bf (i:=9) (v:=v8.vis) rfl hS ?_
 refine Bf (i:=10) (v:=(0:Int)) rfl hS ?_
 refine wpAnyH_done (by kernel_rfl) ?_ _
 go_wp2_with fail
 go_ret3
 exact⟨c8,v8,rfl,(HE.out _ hS).1,(HE.out _ hS).2.1,(HE.out _ hS).2.2⟩):p:=h
theorem I2 (h:p:=by
 go_wp2_with fail
 refine bodyPost_ret (v:=.tuple #[.agg Eb,(),(5:Int)]) ?_ rfl ⟨HX.out,.inr ⟨du.out,5,rfl,by omega⟩⟩
 exact Ej rfl _ _ (w.heap.size+1) 94 _ _ _ _ _ rfl rfl rfl cn.out Tryz.underlying94 rfl (Fm rfl)):p:=h
theorem I3 (h:p:=by
 clear ai;go_upto_region 17 with fail
 go_quiet (fail)
 go_wp2_with fail
 go_ret2
 exact⟨(RJ.out.trans (An.alloc _ _)).to_drewN _,.inl ⟨4,rfl,by omega,sh.out⟩⟩):p:=h
theorem I4 (h:p:=by
 exact Ej rfl _ _ (w.heap.size+1) 94 _ _ _ _ _ rfl rfl rfl cn.out Tryz.underlying94 rfl (Fm rfl)):p:=h
theorem I5 (h:p:=by
 match i,hi with
 |0,_=>rfl|1,_=>rfl|2,_=>rfl|3,_=>rfl|4,_=>rfl|5,_=>rfl|6,_=>rfl|7,_=>rfl|8,_=>rfl|9,_=>rfl|10,_=>rfl|11,_=>rfl|12,_=>rfl|13,_=>rfl|14,_=>rfl|15,_=>rfl|16,_=>rfl|17,_=>rfl|18,_=>rfl|19,_=>rfl|20,_=>rfl|21,_=>rfl|22,_=>rfl|23,_=>rfl|24,_=>rfl|25,_=>rfl|26,_=>rfl
 |j+27,h=>exact absurd h (by omega)):p:=h
theorem I149 (h:p:=by
 have:=Bd.setCell (Bd.setCell db (p:=⟨g,1,none⟩) (Nat.lt_succ_self g) (.slice O2 (q+1) d2)) (p:=⟨g,0,none⟩) (Nat.lt_succ_self g) (.slice none 0 0)
 simpa[Ba]using this):p:=h
theorem I150 (h:p:=by
 clear db av cf bg cg eo ia vl ac ai k0 k1 nv;go_wp2_with fail
 go_end0
 exact⟨rfl,by rw[HR.out];exact HF.out,HX.out⟩):p:=h
theorem I6 (h:p:=by
 have f4:=eo.frozen 0;have c6:=eo.cell 0;simp only[List.getElem?_toArray,List.getElem?_cons_zero,List.getElem?_cons_succ]at c6;have ia:Aq ((w5.setCell ⟨g,1,none⟩ (.slice O2 (q+1) d2)).setCell ⟨g,0,none⟩ (.slice none 0 0)) g 134 #[.slice none 0 0,.slice O2 (q+1) d2]:=by simpa using eo.set_ 0 (.slice none 0 0)
 have vl:Ba ((w5.setCell ⟨g,1,none⟩ (.slice O2 (q+1) d2)).setCell ⟨g,0,none⟩ (.slice none 0 0)) (g+1) O2 (q+1) d2 (out++[(gc:Int)]):=by
  exact I149
 have HX:=A6 ((bg.setCell (p:=⟨g,1,none⟩) hg (.slice O2 (q+1) d2)).setCell (p:=⟨g,0,none⟩) hg (.slice none 0 0));have HF:Hid (Fx ((w5.setCell ⟨g,1,none⟩ (.slice O2 (q+1) d2)).setCell ⟨g,0,none⟩ (.slice none 0 0)) g ⟨[],out++[(gc:Int)]⟩):=A6 ⟨none,0,0,O2,q+1,d2,ia,Bd.nil _ _ _ _,vl⟩;exact I150):p:=h
theorem I7 (h:p:=by
 exact Ej rfl _ _ (w.heap.size+1) 94 _ _ _ _ _ rfl rfl rfl kc.out Tryz.underlying94 rfl (Fm rfl)):p:=h
theorem I8 (h:p:=by
 exact Eu rfl _ _ (w.heap.size+1) 62 _ _ _ _ rfl rfl (J1n _ _ _ _ _) Tryz.underlying62 rfl (by kernel_rfl)):p:=h
theorem I9 (h:p:=by
 clear hz;go_enter Tryz.func172,Tryz.ntmps172
 go_wp2_with fail
 refine(H.out _ am).mono ?_
 rintro e w1 ⟨rfl,aj⟩;have bf:=ak.ext aj;have bu:=al.ext aj;have HB:=A6 bf;have HE:=A6 (am.trans aj);have c0:=bf.cell 0;have c1:=bf.cell 1;have f0:=bf.frozen 0;have f1:=bf.frozen 1;have d0:=bu.cell 0;have d1:=bu.cell 1;have d2:=bu.cell 2;have d3:=bu.cell 3;simp only[List.getElem?_toArray,List.getElem?_cons_zero,List.getElem?_cons_succ]at c0 c1 d0 d1 d2 d3;clear ak al am aj bu bf;go_wp2_with fail
 all_goals first
  |(exfalso;have:=HZ.out;omega)
  |(
   obtain⟨c6,c7,hx,ay,bt⟩:=Dk HB.out HE.out (by simp)
   refine bodyPost_ret (by simp[results,Tryz.results172,go_sem,c6,c7];try rfl) rfl ?_
   refine⟨rfl,by first|exact hx _ _|exact HE.out|exact ay _|exact bt _⟩)):p:=h
theorem I154 (h:p:=by
 simpa using(a9.set_ 0 (.int .i64 0)).set_ 1 (.int .i64 0)):p:=h
theorem I10 (h:p:=by
 subst h0;have f0:=a9.frozen 0;have f1:=a9.frozen 1;have c4:=a9.cell 0;have c5:=a9.cell 1;simp only[List.getElem?_toArray,List.getElem?_cons_zero,List.getElem?_cons_succ]at c4 c5;go_wp2_with fail
 have bi:Aq ((wr.setCell ⟨w,0,none⟩ (0:Int)).setCell ⟨w,1,none⟩ (0:Int)) w.heap.size 196 #[.int .i64 0,.int .i64 0]:=by
  exact I154
 have c6:=bi.cell 0;have c7:=bi.cell 1;simp only[List.getElem?_toArray,List.getElem?_cons_zero,List.getElem?_cons_succ]at c6 c7;clear c4 c5 f0 f1;refine bodyPost_ret (by simp[results,Tryz.results118,go_sem,c6,c7];try rfl) rfl ?_
 exact⟨.inr ⟨fun j h1=>ax.out j (Nat.zero_le _) h1,rfl⟩,(he.setCell (by simp) _).setCell (by simp) _⟩):p:=h
theorem I11 (h:p:=by
 have HXE:=A6 (dv.out.setRow (show w.heap.size≤w.heap.size+1 by omega) ds3)
 have UP:=A6 dp;clear dp zi HP dv;go_wp2_with (first|(refine wpList_load_row rfl 38 (.tmp 11) rfl g rfl 38 ds3 (0,0) _ HG.out Tryz.underlying38 rfl (De vm) ?_)|(refine wpList_store_row rfl 38 (.tmp 6) (.tmp 57) rfl (w.heap.size+1) ds3 rfl rfl 38 Cb px.out (De vm) LK DA ?_))
 refine bodyPost_ret (v:=.tuple #[.agg ds3,(0:Int)]) ?_ rfl ⟨ds3,rfl,HE.out,HXE.out⟩
 exact Eu rfl _ _ (w.heap.size+1) 38 _ _ _ _ rfl rfl UP.out Tryz.underlying38 rfl (De vm)):p:=h
theorem I12 (h:p:=by
 clear hb;go_enter Tryz.func128,Tryz.ntmps128
 go_wp2_with fail
 go_ret
 exact⟨1,rfl,HB.out,An.alloc _ _⟩):p:=h
theorem I13 (h:p:=by
 go_enter Tryz.func176,Tryz.ntmps176
 go_wp2_with fail
 go_ret2
 exact⟨rfl,rfl⟩):p:=h
theorem I14 (h:p:=by
 go_enter Tryz.func123,Tryz.ntmps123
 go_wp2_with fail
 go_ret
 exact⟨rfl,rfl⟩):p:=h
theorem I15 (h:p:=by
 go_enter Tryz.func155,Tryz.ntmps155
 go_wp2_with fail
 go_ret2
 exact⟨rfl,rfl⟩):p:=h
theorem I16 (h:p:=by
 have c6:=bi.cell 0;have c7:=bi.cell 1;simp only[List.getElem?_toArray,List.getElem?_cons_zero,List.getElem?_cons_succ]at c6 c7;clear c4 c5 f0 f1;refine bodyPost_ret (by simp[results,Tryz.results118,go_sem,c6,c7];try rfl) rfl ?_
 exact⟨.inl ⟨q,b,⟨by omega,by rw[ab.out];exact hq,HQ.out,HB.out,by omega,ak,fun j h1 h2 h3 h4=>ax.out j h1 h2 h3 h4⟩,rfl⟩,(he.setCell (by simp) _).setCell (by simp) _⟩):p:=h
theorem I17 (h:p:=by
 unfold Oper.wp;rw[de,Oper.upon_enter];refine hc.mono fun e w' hh=>?_
 obtain⟨v,rfl,hR⟩:=hh;exact h v w' hR):p:=h
theorem I18 (h:p:=by
 go_enter Tryz.func37,Tryz.ntmps37
 go_wp2_with fail
 go_ret
 exact⟨rfl,rfl⟩):p:=h
theorem I19 (h:p:=by
 have hg:=Wv k1 [];rw[List.append_nil,←k2]at hg;refine⟨trivial,fun x hx=>?_,by simp⟩
 simp only[List.nil_append,List.cons_append,List.mem_singleton]at hx;subst hx;rw[hg];exact k1):p:=h
theorem I153 (h:p:=by
 clear hw;rcases kj with rfl|rfl|rfl|rfl|rfl<;>exact ckW hx HL HO):p:=h
theorem I20 (h:p:=by
 rcases ho with rfl|⟨qn,ho⟩
 ·have gp:s=0:=by have h6:=h5 rfl;omega
  subst gp;exact I153
 ·have ke:(o !=0)=true:=by simpa using qn
  have le:(o==0)=false:=by simpa using qn
  rw[ho]at HO;exact I153):p:=h
theorem I21 (h:p:=by
 go_enter Tryz.func46,Tryz.ntmps46
 go_wp2_with fail
 go_ret
 exact⟨rfl,rfl⟩):p:=h
theorem I22 (h:p:=by
 go_wp2_with fail
 have bi:=JG.out 0 false;have c6:=bi.cell 0;have c7:=bi.cell 1;simp only[List.getElem?_toArray,List.getElem?_cons_zero,List.getElem?_cons_succ]at c6 c7;clear c4 c5 f0 f1 c0 c1 bi;refine bodyPost_ret (by simp[results,Tryz.results173,go_sem,c6,c7];try rfl) rfl ?_
 exact⟨.inr ⟨HN.out,rfl⟩,LL.out _ _⟩):p:=h
theorem I23 (h:p:=by
 obtain⟨i,hi,rfl⟩:=List.mem_iff_getElem.1 hu;have ld:=ho.len;obtain⟨a,k1,k2,_⟩:=hp (i/2) (by omega)
 rcases(show i=i/2*2∨i=i/2*2+1 by omega)with e|e
 ·rw[←e,List.getElem?_eq_getElem hi]at k1
  injection k1 with k1;rw[k1];rfl
 ·rw[←e,List.getElem?_eq_getElem hi]at k2
  injection k2 with k2;rw[k2];rfl):p:=h
theorem I24 (h:p:=by
 intro B2 d2 w2 db av cf bt;have im:=A6 bt;have np:Hid (Ba w2 w.heap.size B2 (i+1) d2 (M.take (i+1))):=A6 (by rw[HMs.out i ae];simpa[Ba]using db)
 clear bt db av cf ac m8 HO HX RK FM;go_wp2_with fail
 go_roundw
 case rel=>exact⟨i+1,d2,B2,by omega,by go_num,rfl,np,im⟩
 case measure=>simp[intOf];omega):p:=h
theorem I25 (h:p:=by
 go_enter Tryz.func151,Tryz.ntmps151
 go_wp2_with fail
 go_ret
 exact⟨rfl,rfl⟩):p:=h
theorem I26 (h:p:=by
 go_enter Tryz.func55,Tryz.ntmps55
 go_wp2_with fail
 go_ret
 exact⟨rfl,rfl⟩):p:=h
theorem I27 (h:p:=by
 rw[e1,e2];clear e1 e2;go_enter Tryz.func54,Tryz.ntmps54
 go_wp2_with fail
 go_ret2
 exact⟨yQ rfl (J4o (by simp)),rfl⟩):p:=h
theorem I28 (h:p:=by
 have c6:=bi.cell 0;have c7:=bi.cell 1;simp only[List.getElem?_toArray,List.getElem?_cons_zero,List.getElem?_cons_succ]at c6 c7;clear c4 c5 f0 f1 bi;refine bodyPost_ret (by simp[results,Tryz.results119,go_sem,c6,c7];try rfl) rfl ?_
 exact⟨.inl ⟨f,j,HF.out,rfl⟩,LL.out _ _⟩):p:=h
theorem I29 (h:p:=by
 go_wp2_with fail
 go_ret3
 obtain⟨rfl,rfl,rfl⟩:=HA.out;exact⟨rfl,rfl⟩):p:=h
theorem I30 (h:p:=by
 go_wp2_with fail
 refine HA.out.mono ?_
 rintro e w1 ⟨rfl,hd⟩;have HR:=A6 hd;clear hd HA;go_wp2_with fail
 go_end0
 exact⟨rfl,HR.out⟩):p:=h
theorem I31 (h:p:=by
 clear HE;go_enter Tryz.func121,Tryz.ntmps121
 go_wp2_with fail
 go_ret
 exact⟨Gt (by rw[hE.out]),rfl⟩):p:=h
theorem I32 (h:p:=by
 go_wp2_with fail
 go_ret
 exact⟨Gt (by rw[hE.out]),rfl⟩):p:=h
theorem I33 (h:p:=by
 go_enter Tryz.func130,Tryz.ntmps130
 go_wp2_with fail
 go_ret
 exact⟨rfl,UQ.out _ _ rfl rfl⟩):p:=h
theorem I34 (h:p:=by
 cases hb:(Value.slice B2 m q2).ownBlock with
 |none=>exact .inl rfl
 |some g=>exact .inr (fun e=>by
  have h1:=jx g hb;rcases cf with h2|⟨g',h2,h3⟩
  ·rw[h2]at e;have:=DB g e.symm;omega
  ·rw[h3]at e;injection e with e;omega)):p:=h
theorem I35 (h:p:=by
 have py:tmps[q]?.getD undef=.pointer (some ⟨g',0,none⟩):=by simpa using hq
 have AF:tmps[r]?.getD undef=v:=by simpa using hr
 simp[results,h,ji,py,AF,asAddr,run_loadVar_row w g t ty cs fr d hg hu hd hi,run_loadVar_row w g' t' CU cs' RF d' cr CV el hi']):p:=h
theorem I36 (h:p:=by
 rw[hl,hr];by_cases he:l.length-l.length/2-1=l.length/2
 ·rw[he];omega
 ·have:=aY f (l.length/2-1) (by omega)
  rw[show l.length/2-1+1=l.length/2 by omega,show l.length/2-1=l.length-l.length/2-1 by omega]at this
  omega):p:=h
theorem I37 (h:p:=by
 rw[e1,e2];clear e1 e2;go_enter Tryz.func54,Tryz.ntmps54
 go_wp2_with fail
 go_ret2
 exact⟨rfl,rfl⟩):p:=h
theorem I38 (h:p:=by
 exact⟨h3.trans g3.symm,h4.trans g4.symm,h2.trans g2.symm⟩):p:=h
theorem I39 (h:p:=by
 injection h with h;injection h with h1 h2;subst h1;subst h2;simp;omega):p:=h
theorem I40 (h:p:=by
 have py:tmps[q]?.getD undef=v:=by simpa using hq
 simp[results,h,ji,py,asAddr,run_loadVar_row w g t ty cs fr d hg hu hd hi]):p:=h
theorem I41 (h:p:=by
 go_enter Tryz.func60,Tryz.ntmps60
 go_wp2_with fail
 refine HB.out.mono ?_
 rintro e w1 ⟨rfl,hd⟩;have HR:=A6 hd;clear hd HB;go_wp2_with fail
 go_end0
 exact⟨rfl,HR.out⟩):p:=h
theorem I42 (h:p:=by
 go_wp2_with fail
 exact⟨⟨j+1,by omega,by go_num,by rw[HV.out],HN.out hh.out,trivial⟩,by simp[intOf]<;>omega⟩):p:=h
theorem I43 (h:p:=by
 go_enter Tryz.func138,Tryz.ntmps138
 go_wp2_with fail
 go_ret
 exact⟨rfl,hx.out⟩):p:=h
theorem I44 (h:p:=by
 exact⟨Mg,by simp[Ep],fun _=>rfl,by simp[Ep]⟩):p:=h
theorem I45 (h:p:=by
 unfold Ux Uy;split<;>(try split)<;>(try split)<;>(try split)<;>omega):p:=h
theorem I46 (h:p:=by
 rw[Bz (by omega)]at dx
 obtain⟨h1,v,h2,h3⟩:=h.far B q d dx g' cr;exact⟨fun j hj v hv=>by rw[Bz (by omega)]at hv;exact h1 j hj v hv,v,by rw[Bz (by omega)];exact h2,h3⟩):p:=h
theorem I47 (h:p:=by
 obtain rfl:l=[]:=List.eq_nil_of_length_eq_zero hl.len;clear hl;go_enter Tryz.func156,Tryz.ntmps156
 go_wp2_with fail
 go_ret
 exact⟨none,rfl,rfl,An.refl _⟩):p:=h
theorem I48 (h:p:=by
 have ae:gI (Dq l) q<k:=by omega
 have HL:=A6 ae;clear ku;go_wp2_with fail
 exact⟨⟨q,by omega,by omega,by go_num,RL.out (fun _=>HL.out),trivial⟩,by simp[intOf]<;>omega⟩):p:=h
theorem I49 (h:p:=by
 rw[z4]at h5;exact⟨_,rfl,(((x1.trans x2).trans x3).trans x4).trans x5,Aq.ext h1 (((x2.trans x3).trans x4).trans x5),Aq.ext h2 ((x3.trans x4).trans x5),Aq.ext h3 (x4.trans x5),Aq.ext h4 x5,h5⟩):p:=h
theorem I50 (h:p:=by
 rcases h with⟨_,h1,_⟩|⟨_,h1,_⟩|⟨_,h1,_⟩|⟨_,h1,_⟩|⟨_,h1,_⟩<;>omega):p:=h
theorem I51 (h:p:=by
 simpa using((jq.keepCell2 (p:=⟨w1,1,none⟩) n1 (.int .i64 (Co l (Co l k big) big))).set_ 0 (.int .i64 (E8 l k big))).set_ 1 (.int .i64 (Co l (Co l k big) big))):p:=h
theorem I52 (h:p:=by
 have h:=bits_and_u64_nat a 4294967295 (by omega) (by omega)
 have e:a&&&4294967295=a%4294967296:=Nat.and_two_pow_sub_one_eq_mod a 32;rw[e,Nat.mod_eq_of_lt ha]at h;exact h):p:=h
theorem I53 (h:p:=by
 by_cases ig:i=j
 ·subst ig
  rw[J1 (by rw[h.1.1];exact hi)]at hk
  exact fun e=>ai (by rw[hk,e])
 ·rw[Kv ig]at hk
  exact h.2.2 j k hk):p:=h
theorem I54 (h:p:=by
 simp only[Ht,Array.getElem?_append,Array.size_append,hr,List.size_toArray,List.length_cons,List.length_nil];rw[if_pos (by omega),if_pos (by omega),if_pos (by omega)]
 rfl):p:=h
theorem I55 (h:p:=by
 go_enter Tryz.func120,Tryz.ntmps120
 go_wp2_with fail
 refine HC.out.mono ?_
 rintro e w' ⟨rfl,rfl⟩;go_wp2_with fail
 go_ret2
 exact⟨rfl,rfl⟩):p:=h
theorem I56 (h:p:=by
 exact aF (by simp) ⟨h1,h2⟩ ⟨h3,h4⟩ w):p:=h
theorem I57 (h:p:=by
 have ke:(o !=0)=true:=by simpa using qn
 have le:(o==0)=false:=by simpa using qn
 rw[ho]at HO;clear hw;rcases kj with rfl|rfl<;>exact ckW hx HL HO):p:=h
theorem I58 (h:p:=by
 obtain⟨hi1,UR⟩:=hi;go_enter Tryz.func174,Tryz.ntmps174
 go_wp2_with fail
 go_ret3
 exact⟨tO (by omega),rfl⟩):p:=h
theorem I59 (h:p:=by
 go_enter Tryz.func23,Tryz.ntmps23
 go_wp2_with fail
 go_ret2
 exact⟨An.alloc _ _,.inl ⟨1,rfl,by omega,HN.out⟩⟩):p:=h
theorem I60 (h:p:=by
 cases hf:Kr l arg k g with
 |none=>rw[hf]at h;simp at h
 |some j=>rw[hf]at h;simp at h;have:=Sw hf;obtain⟨rfl,rfl⟩:=h;simp;omega):p:=h
theorem I61 (h:p:=by
 have:(⟨w,0,none⟩:Addr).add j=⟨w,j,none⟩:=by simp[Addr.add_lit]
 rw[this,(Aq.new w t xs.toArray).cell j]
 simpa using hu):p:=h
theorem I62 (h:p:=by
 cases hb:(Value.slice B2 m q2).ownBlock with
 |none=>exact .inl rfl
 |some g=>exact .inr (fun e=>by have h1:=jx g hb;have h2:=DB g e.symm;omega)):p:=h
theorem I63 (h:p:=by
 unfold doS;rcases hd with⟨h1,h2,h3⟩|⟨d,h1,h2,h3⟩
 ·exact⟨_,h2,by rw[h1];exact h3⟩
 ·exact⟨_,h2,by rw[h1];exact h3⟩):p:=h
theorem I64 (h:p:=by
 cases hf:Jp l arg (l.length-(k+1)) (k+1) g with
 |none=>rw[hf]at h;simp at h
 |some j=>rw[hf]at h;simp at h;have:=Sv hf;omega):p:=h
theorem I65 (h:p:=by
 exact Hj rfl _ _ (w.heap.size+1) 94 _ _ _ _ rfl rfl cn.out Tryz.underlying94 rfl (Fm rfl)):p:=h
theorem I66 (h:p:=by
 rcases h.part x hx with h2|⟨m,h2,h3,_⟩<;>omega):p:=h
theorem I67 (h:p:=by
 exact Gv rfl _ _ (w.heap.size+1) 32 _ _ _ _ rfl rfl HF.out Tryz.underlying32 rfl (Ql rfl)):p:=h
theorem I68 (h:p:=by
 subst ig;exact⟨v,by rw[Array.getElem?_setIfInBounds_self,if_pos (by rw[h.1.1];exact hi)],by rw[if_pos rfl];exact hv.setCell_ne ai _⟩):p:=h
theorem I69 (h:p:=by
 go_wp2_with fail
 go_roundw
 case rel=>exact⟨j+1,cnt,by omega,by omega,by go_num,ap,LG,au⟩
 case measure=>simp[intOf];omega):p:=h
theorem I70 (h:p:=by
 go_wp2_with fail
 go_ret
 exact⟨rfl,An.alloc _ _⟩):p:=h
theorem I71 (h:p:=by
 cases ar
 ·exact⟨_,_,rfl,rfl,by simp;omega,by simpa using a3⟩
 ·exact⟨_,_,rfl,rfl,by simp;omega,by simpa using b3⟩):p:=h
theorem I72 (h:p:=by
 rw[e,List.length_cons,show K+(ks.length+1)=K+1+ks.length by omega,show T+(ks.length+1)=T+1+ks.length by omega]
 exact h1):p:=h
theorem I73 (h:p:=by
 have hg:=he.good (by omega) (by omega)
 rw[hl]at hg;exact⟨by omega,by omega,fun _=>by omega,fun h=>absurd hd h,hg.1,hg.2⟩):p:=h
theorem I74 (h:p:=by
 go_wp2_with fail
 go_quiet (fail)
 go_wp2_with fail
 go_meet
 exact⟨j,JE,hjy,rfl,kv,z'+nq,by first|exact Qv _ _ _|rfl⟩):p:=h
theorem I75 (h:p:=by
 cases ar
 ·exact⟨f+1,t,by simp,by simp,by omega,by omega⟩
 ·exact⟨f,t+1,by simp,by simp,by omega,by omega⟩):p:=h
theorem I76 (h:p:=by
 go_wp2_with fail
 go_quiet (fail)
 go_wp2_with fail
 go_meet
 exact⟨k,CW,hky,rfl,kv,z+nq,by first|exact Qv _ _ _|rfl⟩):p:=h
theorem I77 (h:p:=by
 clear hd;by_cases ho:o=0
 ·subst ho
  exact Mc hz ij
 ·have ke:(o==0)=false:=by simpa using ho
  exact Mc hz ij):p:=h
theorem I78 (h:p:=by
 go_enter Tryz.func30,Tryz.ntmps30
 go_wp2_with fail
 go_ret2
 exact⟨1,rfl,by decide,An.refl _⟩):p:=h
theorem I79 (h:p:=by
 go_wp2_with fail
 go_quiet (fail)
 go_wp2_with fail
 go_meet
 exact⟨k,hk,rfl,HT,kv,z+nq,by first|exact Qv _ _ _|rfl⟩):p:=h
theorem I80 (h:p:=by
 go_wp2_with fail
 go_end0
 refine⟨rfl,?_⟩
 rw[HF.out];exact HR.out):p:=h
theorem I81 (h:p:=by
 rw[if_neg e]at cr;exact Nat.lt_of_lt_of_le (h.ses.dom g cr) nw.size):p:=h
theorem I82 (h:p:=by
 go_wp2_with fail
 go_ret
 exact⟨_,rfl,HX.out,fun e=>by cases e⟩):p:=h
theorem I83 (h:p:=by
 exact⟨Mg,by simp,fun _=>rfl,by simp⟩):p:=h
theorem I84 (h:p:=by
 rintro rfl;rcases ce.2 with⟨hv,_⟩|⟨g,cap,cur,hv,_⟩
 ·injection hv
 ·injection hv with h1;cases h1):p:=h
theorem I85 (h:p:=by
 rcases h2.2 with⟨rfl,RM⟩|⟨g,cap,cur,rfl,_⟩
 ·exact⟨none,0,by rw[RM]⟩
 ·exact⟨_,_,rfl⟩):p:=h
theorem I86 (h:p:=by
 go_wp2_with fail
 go_ret
 exact(HM.out.ext gu.out).fail (by decide) (fun h=>by have:=h.1;rw[HE.out]at this;cases this)):p:=h
theorem I87 (h:p:=by
 rintro rfl;rcases h.2 with⟨hv,_⟩|⟨g',cap,cur,hv,_⟩
 ·injection hv
 ·injection hv with h _ _;cases h):p:=h
theorem I89 (h:p:=by
 go_enter Tryz.func100,Tryz.ntmps100
 go_wp2_with fail
 go_ret
 exact⟨rfl,rfl⟩):p:=h
theorem I90 (h:p:=by
 go_enter Tryz.func183,Tryz.ntmps183
 go_wp2_with fail
 go_ret
 exact⟨rfl,rfl⟩):p:=h
theorem I91 (h:p:=by
 go_enter Tryz.func83,Tryz.ntmps83
 go_wp2_with fail
 go_ret
 exact⟨rfl,rfl⟩):p:=h
theorem I92 (h:p:=by
 have h:=jC (Em bs) wq
 rwa[Jg LM.out]at h):p:=h
theorem I93 (h:p:=by
 simp only[Ln,Ct]at this;injection this with x1 x2;exact⟨Option.some.inj x1,Option.some.inj x2⟩):p:=h
theorem I94 (h:p:=by
 have:m=m':=hm.trans gm.symm;subst this;exact⟨rfl,ha.trans ga.symm,hd.trans gd.symm,he.one ge⟩):p:=h
theorem I95 (h:p:=by
 rw[e]at hk;injection hk with hk;refine Decidable.byContradiction fun uc=>?_
 have:=hc5 k uc;omega):p:=h
theorem I96 (h:p:=by
 rintro e w' ⟨⟨o,ho,rfl⟩,h4⟩;exact⟨⟨o,by unfold Yl;rw[hf];simpa using ho,rfl⟩,h4⟩):p:=h
theorem I97 (h:p:=by
 have:=Bd.setCell pq (p:=⟨g,0,none⟩) (Nat.lt_succ_self g) (.slice A2 1 c4)
 simpa[bv]using this):p:=h
theorem I98 (h:p:=by
 rcases e with e|rfl
 ·rw[hg g e];exact fun e=>h1 e.symm
 ·rw[h7];exact fun e=>h2 e.symm):p:=h
theorem I99 (h:p:=by
 go_wp2_with fail
 refine bodyPost_ret (results_none rfl _ _ _) rfl ⟨rfl,?_⟩
 rw[HF.out];exact H1.out):p:=h
theorem I100 (h:p:=by
 go_wp2_with fail
 refine bodyPost_ret (Lg rfl _ _ _) rfl ⟨HX.out,.inr ⟨ns.out,rfl⟩⟩):p:=h
theorem I101 (h:p:=by
 rw[HP.out];unfold Ll;rw[if_neg kl];exact if_pos h):p:=h
theorem I102 (h:p:=by
 go_wp2_with fail
 go_meet
 exact⟨j,hj,rfl,HD,kv,z'+nq,by first|exact Qv _ _ _|rfl⟩):p:=h
theorem I103 (h:p:=by
 unfold Aq at h ⊢;unfold World.setCell;simp only[Array.getElem?_modify];rw[if_neg hp];exact h):p:=h
theorem I104 (h:p:=by
 exact⟨k+1,by omega,by omega,by congr 1;omega,fun j h1 h2 h3=>absurd h2 (by omega),rfl⟩):p:=h
theorem I105 (h:p:=by
 subst hm;go_wp2_with fail
 go_ret2
 exact⟨by rw[←HF.out,HS.out,if_pos HZ.out];rfl,am⟩):p:=h
theorem I106 (h:p:=by
 split
 ·rw[List.length_replicate];omega
 ·rw[List.length_cons,List.length_take];omega):p:=h
theorem I107 (h:p:=by
 rw[hl]at hg;exact⟨by omega,by omega,fun _=>by omega,fun h=>absurd rfl h,hg.1,hg.2⟩):p:=h
theorem I108 (h:p:=by
 rw[show 36+(k-36)=k by omega]at hu
 rw[hu]at hv;injection hv with hv;subst hv;rfl):p:=h
theorem I109 (h:p:=by
 unfold Aq at h ⊢;unfold World.setCell;simp only[Array.getElem?_modify,hp,if_false,h]):p:=h
theorem I110 (h:p:=by
 go_wp2_with fail
 go_ret2
 exact ns.out _ _ zj.out):p:=h
theorem I112 (h:p:=by
 go_wp2_with fail
 all_goals
  go_meet
  exact⟨by have:=HH.out;congr 2;omega,rfl⟩):p:=h
theorem I113 (h:p:=by
 rw[h'];intro e;injection e with e;have:w1.drew.heap.size=w1.heap.size:=rfl;omega):p:=h
theorem I114 (h:p:=by
 obtain⟨u,h1,h2⟩:=hO.2 j hj;rw[Qf h1]at hk;have:=(h2.blk k hk).2;omega):p:=h
theorem I115 (h:p:=by
 go_wp2_with fail
 go_ret
 exact⟨⟨_,rfl,.inr ⟨rfl,HN.out⟩⟩,An.alloc _ _⟩):p:=h
theorem I116 (h:p:=by
 subst ig;exact hy.wpOp hi hT ⟨fun h=>hS (by rwa[getD_set_ne true ny]at h),H⟩):p:=h
theorem I117 (h:p:=by
 obtain⟨A,n,c,rfl,h1,h2,h3⟩:=h;exact⟨A,n,c,rfl,h1.ext he,h2,h3⟩):p:=h
theorem I118 (h:p:=by
 rw[AM.out];exact Bd.lower jp.out (by omega)):p:=h
theorem I119 (h:p:=by
 simpa using(hq.set_ 0 (.int .i64 (E8 l k big))).set_ 1 (.int .i64 (Co l k big))):p:=h
theorem I120 (h:p:=by
 rename_i h;exact⟨Nat.le_refl _,by omega,fun i h1 h2=>by omega,fun _=>h⟩):p:=h
theorem I121 (h:p:=by
 go_wp2_with fail
 refine bodyPost_ret (results_none rfl _ _ _) rfl ⟨rfl,HR.out⟩):p:=h
theorem I122 (h:p:=by
 injection h with h;injection h with h _;omega):p:=h
theorem I123 (h:p:=by
 rw[show #[Value.int .i64 0]=(Value.int .i64 0).cells from rfl,U3];simp):p:=h
theorem I124 (h:p:=by
 rw[Array.getElem?_setIfInBounds_ne (by omega)]
 exact AN.out.2.2 j (by omega)):p:=h
theorem I125 (h:p:=by
 rw[e];exact aF (Or.inr ⟨by simp,hk⟩) ⟨h1,h2⟩ ⟨h3,h4⟩ w):p:=h
theorem I127 (h:p:=by
 have:=(Array.getElem?_eq_some_iff.1 hv).1;rw[h.size]at this;exact this):p:=h
theorem I128 (h:p:=by
 exact⟨fun _=>h.1,fun h=>(by omega),fun h=>(by omega),by omega⟩):p:=h
theorem I129 (h:p:=by
 have h2:=h.1;rw[h'.2 t ht,h.2 (k-j+t) (by omega)]
 congr 1
 omega):p:=h
theorem I130 (h:p:=by
 exact Mc (z:=1) (b:=false) (by simp[At,Fc,h1,h2]) ij):p:=h
theorem I131 (h:p:=by
 rw[J6c h1];split
 ·rfl
 ·first|rfl|rw[if_pos h0]):p:=h
theorem I132 (h:p:=by
 go_wp2_with fail
 go_ret
 exact⟨by rw[LN.out];rfl,hx.out⟩):p:=h
theorem I133 (h:p:=by
 exact⟨_,_,0,.inl ⟨i,b,h,rfl,by simp,by simp⟩,e⟩):p:=h
theorem I134 (h:p:=by
 subst h2;rw[h.oat]at hv;injection hv with hv;subst hv;rfl):p:=h
theorem I135 (h:p:=by
 rw[h.2.1.cell p];simp[gS,Sl.v,show p<ss.length by omega]):p:=h
theorem I136 (h:p:=by
 exact h1.beg rfl ⟨G3.nil,Nat.zero_le _⟩ (.inr (.inl rfl))):p:=h
theorem I137 (h:p:=by
 rw[Kv (by omega)]at hk
 exact(nr.out.blk h2 hk).2):p:=h
theorem I138 (h:p:=by
 obtain⟨q,hq⟩:=dl.out;exact⟨q,_,_,by rw[hq]⟩):p:=h
theorem I139 (h:p:=by
 intro v hv;obtain⟨_,_,rfl⟩:=List.mem_map.1 hv
 rfl):p:=h
theorem I140 (h:p:=by
 rcases h.part u UK with h2|⟨m,h2,h3,_⟩<;>omega):p:=h
theorem I141 (h:p:=by
 have:=hc _ _ k2;rw[←Gu]at this;exact this):p:=h
theorem I142 (h:p:=by
 rw[List.getElem?_eq_getElem h];exact List.getElem_mem h):p:=h
theorem I143 (h:p:=by
 go_wp2_with fail
 go_end0
 exact⟨rfl,_,_,HR.out⟩):p:=h
theorem I144 (h:p:=by
 rcases J0t (big:=big) hk with h|h|h<;>omega):p:=h
theorem I145 (h:p:=by
 exact h.nest x y u v fl vk AH nt ji py he RG RH):p:=h
theorem I146 (h:p:=by
 rw[h.c65]at hv;injection hv with hv;subst hv;rfl):p:=h
theorem I147 (h:p:=by
 rw[h.c64]at hv;injection hv with hv;subst hv;rfl):p:=h
theorem I148 (h:p:=by
 rw[h.c63]at hv;injection hv with hv;subst hv;rfl):p:=h
theorem I151 (h:p:=by
 clear HX HG mm gj;go_wp2_with fail
 refine(HS.out _).mono ?_
 rintro e w' ⟨rfl,rfl⟩;exact I29):p:=h
theorem I152 (h:p:=by
 go_enter Tryz.func40,Tryz.ntmps40
 exact I30):p:=h
theorem I155 (h:p:=by
 show(Cg sA).over=false
 rw[jw,gp];have:=Sy (Cg (Ce s [])) c;unfold doS at this;rw[←gp,hd]at this;rw[←gp];exact this.trans (by rw[gp];exact hq.2.2)):p:=h
theorem I156 (h:p:=by
 have:(Cg (Cj sA (Pg ty++Pd))).told=(keysF (Cg (Ce sA [])) ty).told:=by rw[k1];rfl
 rw[←this];exact t0):p:=h
theorem I157 (h:p:=by
 rw[e1];unfold Vn at e2
 (repeat' split at e2)<;>(first|exact .inl e2|exact .inr e2|exact absurd e2 dw)):p:=h
theorem I158 (h:p:=by
 cases Gy s.mode s.tx s.at_.toNat k with
 |none=>rfl
 |some r=>rfl):p:=h
theorem I159 (h:p:=by
 unfold gI;rw[List.getElem?_eq_getElem h];exact List.getElem_mem h):p:=h
theorem I160 (h:p:=by
 rw[ByteArray.size_append];have:E6.size=3:=rfl;omega):p:=h
end
