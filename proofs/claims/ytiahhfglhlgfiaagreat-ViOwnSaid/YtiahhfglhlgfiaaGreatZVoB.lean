/-
  Part ZVoB.
-/
import Derived.Test.YtiahhfglhlgfiaaGreatZVoS
set_option maxRecDepth 100000
set_option maxHeartbeats 16000000
set_option linter.unusedVariables false
set_option linter.unusedSimpArgs false
namespace Go.Proofs.YtiahhfglhlgfiaaGreat
open Go.RowKit
open _root_.And renaming intro→Be
open _root_.Nat renaming le_trans→Ap
theorem bB {w:World}{a b:ByteArray}:
 Calls Tryz.prog 3 #[.string a,.string b] w fun e w'=>e=.returned (.bool true)∧Al w w':=by
 have HN:Hid (∀wq,_):=A4 fun(wq:World)=>qE (most:=3) (W:=10) (w:=wq) (by decide) (by decide) (by decide) (by decide)
 go_enter Tryz.func3,Tryz.ntmps3
 go_wp2_with fail
 refine(HN.out w).mono ?_
 rintro e w1 ⟨p,col,v,rfl,hm,he1,hc⟩;have H1:=A4 (Be hm (Be he1 hc));clear hm he1 hc;go_wp2_with fail
 refine(HN.out w1).mono ?_
 rintro e w2 ⟨q,ct,u,rfl,hm2,he2,hc2⟩;obtain⟨hm,he1,hc⟩:=H1.out;have HTw:Hid (Yb w w2 col p v (Qq 3 10) ct q u (Qq 3 10)):=A4 ⟨he1.trans he2,hm.ext he2,hm2,hc,fun k hk=>Ap he1.hsize (hc2 k hk),fun k hk=>Decidable.byContradiction fun hn=>by
  have:=hm.ses.dom k hk;have:=hc2 k hn;omega⟩
 have HS:=A4 (qZ (most:=3) (W:=10) (by decide) (by decide) (by decide) (by decide))
 clear hm he1 hc hm2 he2 hc2 H1 HN;generalize Qq 3 10=s0 at*;have HF:=A4 (Qf (b:=a) HTw.out.l HS.out (by decide))
 go_wp2_with fail
 refine HF.out.mono ?_
 rintro e w3 ⟨x3,rfl,cs,v3,E,n,k,S,n2,k2,rfl,hm3,ht3,hs3,_,hT3,hn3⟩;have HTw3:=A4 (HTw.out.left hm3 ht3);have HT3:=A4 hT3;have HS1:=A4 hs3;have HF2:=A4 (Qf (b:=a) HTw3.out.r HS.out (by decide))
 clear hm3 ht3 hs3 hT3 HF HTw;generalize Nn s0 a=er at*;go_wp2_with fail
 refine HF2.out.mono ?_
 rintro e w4 ⟨x4,rfl,c4,v4,E4,n4,k4,S4,m4,j4,rfl,hm4,ht4,_,_,_,_⟩;have HTw4:=A4 (HTw3.out.right hm4 ht4);have HT4:=A4 (HT3.out.alt ht4.alt fun g hg hM=>Decidable.byContradiction fun hn=>hM.1 (HTw3.out.dis g hn))
 clear hm4 ht4 HF2 HTw3 HT3 HS;generalize Ru s0 a=s1 at*;obtain⟨⟨xs,hE,hE4,hrow⟩,vl,hV,hV6⟩:=HT4.out;have HE:=A4 hE;have HRow:=A4 hrow;have HV:=A4 (Be hV hV6);have hnk:=Rd.ncap (Ay.rd hE);have hkm:=Rd.nmax (Ay.rd hE);unfold maxLen at hkm;clear hE hE4 hrow hV hV6 HT4;go_wp2_with fail
 go_loopw [55] (fun s wx=>∃i:Nat,i≤n∧s=.int .i64 i∧Hid (Dv (fun g=>cs g=5∨cs g=6) w4 wx)) (fun s _=>n-(intOf s).toNat)
 case atStart=>exact⟨0,by omega,rfl,A4 (Dv.refl _ _)⟩
 case round=>
  obtain⟨i,hin,rfl,HSp⟩:=hrel;by_cases hlt:i<n
  ·obtain⟨kd,A,m,c,l,q1,q2,q3,q4⟩:=HRow.out i hlt
   obtain⟨ad,rfl,hc⟩:=Rd.at_ (Ay.rd (HSp.out.own HE.out (by decide))) hlt
   have g0:=hc (i*2) _ q1;have g1:wr.cell? ⟨(ad.add (i*2)).block,(ad.add (i*2)).off+1,none⟩=some (.slice A m c):=by
    have h:=hc (i*2+1) _ q2;rw[←Kj]at h;exact h
   obtain⟨l',_,hOl⟩:=HSp.out.rows _ _ _ _ _ q3;have HOl:Hid (Av (wr.alloc (.cells #[.int .i64 kd,.slice A m c] 31)) 0 A m c l'):=A4 (Ay.ext hOl (Al.alloc wr _));have HSa:Hid (Dv (fun g=>cs g=5∨cs g=6) w4 (wr.alloc (.cells #[.int .i64 kd,.slice A m c] 31))):=A4 (HSp.out.trans (Dv.ext (Al.alloc wr _) (fun _=>False)) fun _ _ h=>h.elim)
   have HQ4:=A4 q4;clear q1 q2 q3 q4 hc hOl;go_upto_region 10 with fail
   change Code.wp _ _ _ _ (wr.alloc (.cells #[.int .i64 kd,.slice A m c] 31));have hb:=An.new wr 31 #[.int .i64 kd,.slice A m c];generalize wr.heap.size=gx at*;generalize wr.alloc (.cells #[.int .i64 kd,.slice A m c] 31)=wa at*;clear g0 g1;have b0:=hb.cell 0;have b1:=hb.cell 1;simp only[List.getElem?_toArray,List.getElem?_cons_zero,List.getElem?_cons_succ]at b0 b1;have HC:=A4 (Ju (x:=9) HOl.out);clear hb HSp;go_wp2_with fail
   refine HC.out.mono ?_
   rintro e w6 ⟨⟨vv,rfl⟩,hsp⟩;have HS6:=A4 (HSa.out.trans hsp fun g _ e=>.inl (HQ4.out g e))
   clear hsp HC HSa HQ4 HOl b0 b1;go_wp2_with fail
   go_roundw
   case rel=>exact⟨i+1,by omega,by go_num,HS6⟩
   case measure=>simp[intOf];omega
  ·obtain rfl:i=n:=by omega
   obtain⟨l',_,hOl⟩:=HSp.out.rows _ _ _ _ _ HV.out.1;have HC:=A4 (Ju (x:=9) hOl);clear hOl;go_wp2_with fail
   refine HC.out.mono ?_
   rintro e w6 ⟨⟨vv,rfl⟩,hsp⟩;have hs6:=HSp.out.trans hsp fun g _ e=>.inr (HV.out.2 g e)
   obtain⟨T,V,hm6⟩:=HTw4.out.l.spoilt hs6 (fun g _ h=>by have h:cs g=5∨cs g=6:=h;omega)
   have HTw6:Hid (Yb w w6 cs p v3 { s1 with told:=T,vis:=V } c4 q v4 s1):=A4 ⟨hs6.alt.to_ext HTw4.out.x (fun g hg hf=>by have hf:cs g=5∨cs g=6:=hf;have:=HTw4.out.bl g (by omega);omega),hm6,HTw4.out.r.alt hs6.alt (fun g _ hf=>HTw4.out.dis g (by have hf:cs g=5∨cs g=6:=hf;omega)),HTw4.out.bl,HTw4.out.br,HTw4.out.dis⟩
   have HFt:=A4 (jB s1 T V b);have HSx:=A4 (HS1.out.told T V);clear hs6 hm6 hsp HC HSp HV HRow HE HTw4;generalize ({ s1 with told:=T,vis:=V }:PS)=sx at*;have HLk:=A4 (Tm HTw6.out.l (Qv HSx.out).1 (Qv HSx.out).2);go_wp2_with fail
   refine HLk.out.mono ?_
   rintro e w7 ⟨ls,rfl,hL,he7⟩;have HL7:=A4 hL;have HE7:=A4 he7;clear hL he7 HLk;go_upto_region 14 with(refine wpList_store_row rfl 45 (.tmp 13) (.tmp 66) rfl w7.heap.size ls rfl rfl 45 Fx (An.new w7 _ Fx) (Nf HL7.out.size) (by rw[HL7.out.size];rfl) HL7.out.one ?_)
   change Code.wp _ _ _ _ ((w7.alloc (.cells Fx 45)).setRow w7.heap.size ls);obtain⟨hx8,hb8⟩:=iL w7 ls;have hL8:=HL7.out.ext hx8;generalize (w7.alloc (.cells Fx 45)).setRow w7.heap.size ls=w8 at*;generalize w7.heap.size=g8 at*;have HTw8:=A4 (HTw6.out.ext (HE7.out.trans hx8));have HF8:Hid (∀g,w6.heap.size≤g→cs g=0∧c4 g=0∧w.heap.size≤g):=A4 fun g hg=>⟨Decidable.byContradiction fun hn=>absurd (HTw6.out.l.ses.dom g hn) (by omega),Decidable.byContradiction fun hn=>absurd (HTw6.out.r.ses.dom g hn) (by omega),Ap HTw6.out.x.hsize hg⟩
   obtain⟨v0,a0,A0,n0,c0,rfl,t0,_⟩:=hL8.text;obtain⟨v1,a1,A1,n1,c1,rfl,t1,_⟩:=hL8.row;obtain⟨A2,n2',c2,a2,xs2,y1,⟨y2,y3⟩,_⟩:=hL8.lines;have HB8:=A4 hb8;have HT1:=A4 t1;have HLs:=A4 (Be y1 (Be y2 y3));have HRg:=A4 hL8.regs;have HA8:=A4 (Be a1 a2);have x0:=(hb8.cell 0).trans a0;have HC:=A4 (Ju (x:=9) t0);have HB0:=A4 (Ay.blk t0);have hn2m:=Ap (Rd.ncap (Ay.rd y1)) (Rd.nmax (Ay.rd y1));unfold maxLen at hn2m;generalize w6.heap.size=g6 at*;clear hx8 hb8 hL8 HL7 HE7 HTw6 t0 t1 a0 a1 a2 y1 y2 y3;go_wp2_with fail
   refine HC.out.mono ?_
   rintro e w9 ⟨⟨vv,rfl⟩,hsp⟩;have HS9:Hid (Dv (fun g=>g6≤g) w8 w9):=A4 (hsp.mono fun g _ e=>(HB0.out g e).1)
   obtain⟨l1,_,hO1⟩:=HS9.out.rows _ _ _ _ _ HT1.out;have x41:=((HS9.out.blk _ _ _ HB8.out (by decide)).cell 41).trans HA8.out.1
   have HCr:=A4 (Ju (x:=9) hO1);have HB1:=A4 (Ay.blk hO1);clear x0 hsp hO1 HC HB0;go_wp2_with fail
   refine HCr.out.mono ?_
   rintro e w10 ⟨⟨vv,rfl⟩,hsp⟩;have HS10:=A4 (HS9.out.trans hsp fun g _ e=>(HB1.out g e).1)
   have x38:=((HS10.out.blk _ _ _ HB8.out (by decide)).cell 38).trans HA8.out.2
   clear x41 hsp HCr HB1 HS9 HT1;go_wp2_with fail
   go_loopw [78] (fun s wx=>∃i:Nat,i≤n2'∧s=.int .i64 i∧Hid (Dv (fun g=>g6≤g) w8 wx)) (fun s _=>n2'-(intOf s).toNat)
   case atStart=>exact⟨0,by omega,rfl,HS10⟩
   case round=>
    clear HS10 x38;obtain⟨i,hin,rfl,HSp⟩:=hrel;by_cases hlt:i<n2'
    ·obtain⟨y1,y2,y3⟩:=HLs.out
     have hl2:=y1.1;obtain⟨vq,e1,⟨A,m,c,rfl,q3,_⟩,_⟩:=y3 i (by omega)
     obtain⟨ad,rfl,hc⟩:=Rd.at_ (Ay.rd (HSp.out.own y1 (by decide))) hlt
     have g0:=hc i _ e1;obtain⟨l',_,hOl⟩:=HSp.out.rows _ _ _ _ _ q3;have HC:=A4 (Ju (x:=9) hOl);have HBl:=A4 (Ay.blk hOl);clear y1 y2 y3 q3 hc hOl e1 hl2;go_wp2_with fail
     refine HC.out.mono ?_
     rintro e w11 ⟨⟨vv,rfl⟩,hsp⟩;have HS6:=A4 (HSp.out.trans hsp fun g _ e=>(HBl.out g e).1)
     clear g0 hsp HC HBl HSp;go_wp2_with fail
     go_roundw
     case rel=>exact⟨i+1,by omega,by go_num,HS6⟩
     case measure=>simp[intOf];omega
    ·obtain rfl:i=n2':=by omega
     go_wp2_with fail
     go_loopw [85] (fun s wx=>∃j:Nat,j≤27∧s=.int .i64 j∧Hid (Dv (fun g=>g6≤g) w8 wx)) (fun s _=>27-(intOf s).toNat)
     case atStart=>exact⟨0,by omega,rfl,HSp⟩
     case round=>
      clear HSp;obtain⟨j,hj,rfl,HSp⟩:=hrel;by_cases hjt:j<27
      ·obtain⟨vq,e1,A,m,c,rfl,q3,_⟩:=HRg.out j hjt
       have xr:=((HSp.out.blk _ _ _ HB8.out (by decide)).cell (10+j)).trans e1
       obtain⟨l',_,hOl⟩:=HSp.out.rows _ _ _ _ _ q3;have HC:=A4 (Ju (x:=9) hOl);have HBl:=A4 (Ay.blk hOl);clear q3 hOl e1;go_wp2_with fail
       refine HC.out.mono ?_
       rintro e w11 ⟨⟨vv,rfl⟩,hsp⟩;have HS6:=A4 (HSp.out.trans hsp fun g _ e=>(HBl.out g e).1)
       clear xr hsp HC HBl HSp;go_wp2_with fail
       go_roundw
       case rel=>exact⟨j+1,by omega,by go_num,HS6⟩
       case measure=>simp[intOf];omega
      ·obtain rfl:j=27:=by omega
       have HTw9:=A4 (HTw8.out.alt HSp.out.alt fun g _ hg=>HF8.out g hg)
       have HFa:=A4 (Qf (b:=b) HTw9.out.l HSx.out (by decide))
       clear HSp HTw8 HF8 HB8 HRg HLs HA8;go_wp2_with fail
       refine HFa.out.mono ?_
       rintro e w12 ⟨x12,rfl,cs12,v12,E5,n5,k5,S5,m5,j5,rfl,hm12,ht12,hs12,hst12,_,_⟩;have HTw12:=A4 (HTw9.out.left hm12 ht12);have HSt:=A4 (Be hs12 hst12);have HFb:=A4 (Qf (b:=b) HTw12.out.r HS1.out (by decide))
       clear hm12 ht12 hs12 hst12 HTw9 HFa;go_wp2_with fail
       refine HFb.out.mono ?_
       rintro e w13 ⟨x13,rfl,c13,v13,E6,n6,k6,S6,m6,j6,rfl,hm13,ht13,hs13,hst13,_,_⟩;have HTw13:=A4 (HTw12.out.right hm13 ht13);obtain⟨hev1,hvi1⟩:=HSt.out.2 _ _ ht13.alt fun g _ hM=>Decidable.byContradiction fun hn=>hM.1 (HTw12.out.dis g hn)
       obtain⟨hev2,hvi2⟩:=hst13 (fun _=>False) w13 (Fp.refl _ _) fun _ _ h=>h.elim
       obtain⟨f1,f2,f3,T',V',f4⟩:=HFt.out;rw[f2]at hev1;rw[f3]at hvi1;have hnn:n5=n6:=by have h1:=hev1.choose_spec.2.1;have h2:=hev2.choose_spec.2.1;omega
       subst hnn;have HEv:=A4 (Uy hev1 hev2);have HVi:Hid (∀wq,Al w13 wq→Calls Tryz.prog 9 #[.slice S5 m5 j5,.slice S6 m6 j6] wq fun e w'=>e=.returned (.bool true)∧Al wq w'):=A4 fun wq he=>
        (J4 (hvi1.ext he) (hvi2.ext he)).mono fun e w' ⟨h1,h2⟩=>⟨by rw[h1,Lf.2 rfl],h2⟩
       have HL1:Hid (∀wq,Al w13 wq→_):=A4 fun wq he=>Tm (HTw13.out.l.ext he) (Qv HSt.out.1).1 (Qv HSt.out.1).2
       have HL2:Hid (∀wq,Al w13 wq→_):=A4 fun wq he=>Tm (HTw13.out.r.ext he) (Qv hs13).1 (Qv hs13).2
       have HF4:=A4 f4;have HX3:=A4 HTw13.out.x;generalize Nn sx b=e8 at*;generalize Nn s1 b=e9 at*;subst f1;have hee:(e8==e8)=true:=by simp
       clear hev1 hev2 hvi1 hvi2 hm13 ht13 hs13 hst13 f2 f3 f4 HFt HFb HTw12 HTw13 HSt;go_wp2_with fail
       refine HEv.out.mono ?_
       rintro e w14 ⟨rfl,he4⟩;have HE4:=A4 he4;clear he4;go_wp2_with fail
       refine(HVi.out w14 HE4.out).mono ?_
       rintro e w15 ⟨rfl,he5⟩;have HE5:=A4 (HE4.out.trans he5);clear he5;go_wp2_with fail
       refine(HL1.out w15 HE5.out).mono ?_
       rintro e w16 ⟨ls1,rfl,hL,he6⟩;have HE6:=A4 (HE5.out.trans he6);rw[HF4.out]at hL;have HLa:=A4 hL;clear he6 hL;go_wp2_with fail
       refine(HL2.out w16 HE6.out).mono ?_
       rintro e w17 ⟨ls2,rfl,hL,he7⟩;have HSL:=A4 (Zx (HLa.out.same.ext he7) hL);have HE7:=A4 (HX3.out.trans (HE6.out.trans he7));clear he7 hL;go_wp2_with fail
       refine HSL.out.mono ?_
       rintro e w18 ⟨rfl,he8⟩;have HE8:=A4 (HE7.out.trans he8);clear he8;go_wp2_with fail
       go_ret
       exact⟨rfl,HE8.out⟩
