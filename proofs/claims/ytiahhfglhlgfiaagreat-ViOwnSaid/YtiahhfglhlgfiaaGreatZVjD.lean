/-
  Part ZVjD.
-/
import Derived.Test.YtiahhfglhlgfiaaGreatZVjC
import Derived.Test.YtiahhfglhlgfiaaGreatZVjB
set_option maxRecDepth 100000
set_option maxHeartbeats 16000000
set_option linter.unusedVariables false
set_option linter.unusedSimpArgs false
namespace Go.Proofs.YtiahhfglhlgfiaaGreat
open Go.RowKit
open _root_.And renaming intro→Be
open _root_.Nat renaming le_refl→Ai,le_succ→Cw,le_trans→Ap,lt_of_lt_of_le→Bn,zero_le→Aw
open World renaming setCell→Bb
open _root_.Int renaming le_refl→Lc,natCast_nonneg→J0c
open _root_.List renaming length_drop→Ct,mem_singleton→Et
section
variable {s:PS}{K L T p i N:Nat}{l m now:List Int}{rl rl':Nat→List Int}{col:Nat→Nat}{c:Cm}{h:Hi}{w:World}{ls:List (List Int)}{b:ByteArray}{at_ md x k:Int}{d:Dn}{v:SV}
structure yC (s:PS):Prop where
 keys:∃K,∀pt,tT K { s with part:=pt }
 part:F5 s.part=true
 now:∃N,N≤1000000000∧tU N s
 mode:s.mode=0∨s.mode=1∨s.mode=2∨s.mode=3
structure zB (s:PS):Prop where
 line:pL s
 vis:s.vis.length≤1000000000
 row:∃W,Wv W s
theorem qF (h:Db w col p v s)(g:yC s)(key:Int):
 Calls Tryz.prog 13 #[.pointer (some ⟨p,0,none⟩),.int .i64 key] w fun e w'=>e=.returned (.tuple #[])∧Br p w col (Fg s key) w':=by
 have nb:∀{x:Int},key≠x→(key==x)=false:=fun h=>by simpa using h
 obtain⟨⟨K,hK⟩,hp,⟨N,hN,hNk⟩,hm⟩:=g;have ok:tT K s:=hK s.part;have mb:∀{x:Int},s.mode≠x→(s.mode==x)=false:=fun h=>by simpa using h
 unfold Fg;by_cases h3:key=3
 ·rw[if_pos h3];subst h3
  exact iP h ok.told
 rw[if_neg h3];by_cases hm3:s.mode=3
 ·rw[if_pos hm3]
  exact cW h ok (nb h3) hm3
 rw[if_neg hm3];by_cases h13:key=13∨key=10
 ·rw[if_pos h13]
  exact cY h ok.line.len ok.told h13 (mb hm3)
 rw[if_neg h13];by_cases h4:key=4
 ·rw[if_pos h4];subst h4
  by_cases ht:s.tx=[]
  ·rw[if_pos ht]
   exact nO h ok.told ht (mb hm3)
  ·rw[if_neg ht]
   exact cX h ok.line.len ok.told ht (mb hm3)
 rw[if_neg h4];by_cases hm0:s.mode≠0
 ·rw[if_pos hm0]
  exact iO h ok.line hNk hN ok.told (nb h3) (nb fun e=>h13 (.inl e)) (nb fun e=>h13 (.inr e)) (nb h4) (by omega)
 ·rw[if_neg hm0]
  exact rN h hK hp (nb h3) (nb fun e=>h13 (.inl e)) (nb fun e=>h13 (.inr e)) (nb h4) (Decidable.not_not.1 hm0)
noncomputable def Jl (s:PS)(k:Int):PS:=if s.over=true then s else V8 (Fg s k)
noncomputable def Cx (s:PS)(ks:List Int):PS:=ks.foldl Jl s
theorem bO (s:PS)(ks:List Int)(k:Int):Cx s (ks++[k])=Jl (Cx s ks) k:=by
 unfold Cx;rw[List.foldl_append]
 rfl
theorem bP (s:PS)(ks ls:List Int):Cx s (ks++ls)=Cx (Cx s ks) ls:=by
 unfold Cx;rw[List.foldl_append]
theorem Zt (h:s.over=true):∀ks,Cx s ks=s:=by
 intro ks
 induction ks with
 |nil=>rfl
 |cons k ks ih=>
  have:Cx s (k::ks)=Cx (Jl s k) ks:=rfl;rw[this,show Jl s k=s from if_pos h]
  exact ih
def Kb (s:PS)(pd:List Nat):PS:={ s with pend:=pd,told:=[],vis:=[] }
theorem Db.fresh (h:Db w col p v s)(pd:List Nat):
 ∃col',Db (((w.setCell ⟨p,50,none⟩ (.string (G0 pd))).setCell ⟨p,56,none⟩ nl).setCell ⟨p,57,none⟩ nl) col' p { v with told:=nl,vis:=nl } (Kb s pd)∧
  Kp w col (((w.setCell ⟨p,50,none⟩ (.string (G0 pd))).setCell ⟨p,56,none⟩ nl).setCell ⟨p,57,none⟩ nl) col'∧(∀k,col k=4∨col k=5∨col k=6→col' k=0)∧Fp (fun k=>k=p) w (((w.setCell ⟨p,50,none⟩ (.string (G0 pd))).setCell ⟨p,56,none⟩ nl).setCell ⟨p,57,none⟩ nl):=by
 have h7:=h.ses.own;have c:=(((Dh.start (Al.refl w) h.ses.blk).set 50 (.string (G0 pd))).set 56 nl).set 57 nl;have hm:∀c,c≠7→∀k,k<w.heap.size→k=p→col k≠c:=fun c hc k _ e=>by rw[e,h7];exact fun e=>hc e.symm
 have hN:=h.ses.now.turn (col':=col) c.alt (fun k h1 h2=>⟨hm 2 (by decide) k h1 h2,hm 3 (by decide) k h1 h2⟩) fun _ _=>rfl
 have same:∀k x,col k=x→x≠4→x≠5→x≠6→(if col k=4∨col k=5∨col k=6 then 0 else col k)=x:=fun k x e a b c=>by
  rw[if_neg]
  ·exact e
  ·rw[e];exact fun o=>o.elim a fun o=>o.elim b c
 refine⟨fun k=>if col k=4∨col k=5∨col k=6 then 0 else col k,⟨⟨c.to (by kernel_rfl),same p 7 h7 (by decide) (by decide) (by decide),((h.old c.alt).mono fun k _ e=>same k 1 e (by decide) (by decide) (by decide)).imp fun _ h=>⟨h.1,h.2,h.3,h.4,h.5,h.6,h.7,h.8⟩,?_,fun k hk=>?_⟩,⟨none,0,0,[],rfl,Ay.nil _ _ _ _,rfl,nofun,fun M w' ha hk i hi=>absurd hi (Nat.not_lt_zero i)⟩,⟨none,0,0,rfl,Av.nil _ _,nofun⟩⟩,⟨c.alt.mono fun k _ e=>by rw[e,h7];decide,fun k _ hk e=>hk (by show(if _ then _ else _)=_;rw[e];rfl),fun k _ e=>same k 1 e (by decide) (by decide) (by decide)⟩,(fun k hk=>if_pos hk),c.alt⟩
 ·show Py _ _ v.now s.now
  revert hN
  generalize v.now=a;generalize s.now=o;intro hN;rcases a with _|a<;>rcases o with _|⟨c,l⟩
  ·trivial
  ·exact hN
  ·exact hN
  ·obtain⟨q,y,rfl,h1,h2,h3,h4⟩:=hN
   exact⟨q,y,rfl,same q 2 h1 (by decide) (by decide) (by decide),h2,h3,fun g hg=>same g 3 (h4 g hg) (by decide) (by decide) (by decide)⟩
 ·have hk:(if col k=4∨col k=5∨col k=6 then 0 else col k)≠0:=hk
  split at hk
  ·exact absurd rfl hk
  ·exact Bn (h.ses.dom k hk) c.alt.size
theorem bQ (h:Db w col p v s)(ho:s.over=true):
 Calls Tryz.prog 5 #[.pointer (some ⟨p,0,none⟩),.string b] w fun e w'=>e=.returned (.tuple #[.slice none 0 0,.slice none 0 0,.int .i64 6])∧w'=w:=by
 have d55:w.cell? ⟨p,55,none⟩=some (.bool s.over):=h.ses.blk.cell 55;rw[ho]at d55;clear h ho;go_enter Tryz.func5,Tryz.ntmps5
 go_wp2_with fail
 go_ret3
 exact⟨rfl,rfl⟩
theorem gH (h:Db w col p v s)(ho:s.over=false)(hp:Ww s.pend)(hlt:∀x∈s.pend,x<256)(hs:4096<b.size):
 Calls Tryz.prog 5 #[.pointer (some ⟨p,0,none⟩),.string b] w fun e w'=>e=.returned (.tuple #[.slice none 0 0,.slice none 0 0,.int .i64 2])∧Al w w':=by
 have d55:w.cell? ⟨p,55,none⟩=some (.bool s.over):=h.ses.blk.cell 55;rw[ho]at d55;have d50:w.cell? ⟨p,50,none⟩=some (.string (G0 s.pend)):=h.ses.blk.cell 50;have HFd:=A4 (oG (w:=w) hp hlt hs);clear h ho hp hlt hs;generalize G0 s.pend=sp at*;go_enter Tryz.func5,Tryz.ntmps5
 go_wp2_with fail
 refine HFd.out.mono ?_
 rintro e w1 ⟨rfl,he⟩;have HX:=A4 he;clear he;go_wp2_with fail
 go_ret3
 exact⟨rfl,HX.out⟩
theorem jC {w w2 wr wq:World}{col col2 c8:Nat→Nat}(h:∀k,k<w.heap.size→col k=4∨col k=5∨col k=6→w2.heap[k]? = w.heap[k]? ∧ col2 k=0)(hz:w.heap.size≤w2.heap.size)(t:Kp w2 col2 wr c8)(he:Al wr wq)
 (k:Nat) (hk:k<w.heap.size) (hc:col k=4∨col k=5∨col k=6):wq.heap[k]? = w.heap[k]? ∧ c8 k=0:=by
 obtain⟨h1,h2⟩:=h k hk hc;have hk2:=Bn hk hz;refine⟨(Below.block he k (Bn hk2 t.1.size)).trans ((t.1.block k hk2 fun hn=>hn.1 h2).trans h1),Decidable.byContradiction fun hn=>t.2 k hk2 hn h2⟩
def zZ (p:Nat)(w:World)(col:Nat→Nat)(s':PS)(e:Ending)(w':World):Prop:=
 ∃col' v',e=.returned (.tuple #[v'.told,v'.vis,.int .i64 0])∧Db w' col' p v' s'∧Kp w col w' col'∧∀k,k<w.heap.size→col k=4∨col k=5∨col k=6→w'.heap[k]? = w.heap[k]? ∧ col' k=0
theorem lW (h:Db w col p v s)(ho:s.over=false)(hp:Ww s.pend)(hlt:∀x∈s.pend,x<256)(hs:b.size≤4096)
 (hall:∀i,i<(G3 s.pend (Ao b)).out.length→(Cx (Kb s (G3 s.pend (Ao b)).ah) ((G3 s.pend (Ao b)).out.take i)).over=false→
  yC (Cx (Kb s (G3 s.pend (Ao b)).ah) ((G3 s.pend (Ao b)).out.take i))∧zB (Fg (Cx (Kb s (G3 s.pend (Ao b)).ah) ((G3 s.pend (Ao b)).out.take i)) (gI (G3 s.pend (Ao b)).out i))):
 Calls Tryz.prog 5 #[.pointer (some ⟨p,0,none⟩),.string b] w (zZ p w col (Cx (Kb s (G3 s.pend (Ao b)).ah) (G3 s.pend (Ao b)).out)):=by
 have d55:w.cell? ⟨p,55,none⟩=some (.bool s.over):=h.ses.blk.cell 55;rw[ho]at d55;have d50:w.cell? ⟨p,50,none⟩=some (.string (G0 s.pend)):=h.ses.blk.cell 50;have HFd:=A4 (oF (w:=w) hp hlt hs);have H:=A4 h;generalize G3 s.pend (Ao b)=mc at*;obtain⟨sp,hsp⟩:∃x,x=G0 s.pend:=⟨_,rfl⟩;obtain⟨sq,hsq⟩:∃x,x=G0 mc.ah:=⟨_,rfl⟩;rw[←hsp]at d50 HFd;rw[←hsq]at HFd;obtain⟨s0,hs0⟩:∃x,x=Kb s mc.ah:=⟨_,rfl⟩;rw[←hs0]at hall ⊢;have HA:=A4 hall;have HQ:=A4 (Be hsp (Be hsq hs0));clear h ho hp hlt hs hall hsp hsq hs0;obtain⟨ah,l⟩:=mc;simp only at*;go_enter Tryz.func5,Tryz.ntmps5
 go_wp2_with fail
 refine HFd.out.mono ?_
 rintro e w1 ⟨O,q,d,rfl,hO,he⟩;obtain⟨hm1,ht1⟩:=H.out.grow he 1;have hD1:Ht (fun k=>Go.Proofs.YtiahhfglhlgfiaaGreat.grow col w.heap.size w1.heap.size 1 k=1) w1 fun x=>Av x 0 O q d l:=
  Ht.own (Ay.lower hO (Nat.zero_le _)) fun g hg=>Hn (Ay.blk hO g hg).1 (Ay.blk hO g hg).2
 have hlq:l.length=q:=hO.ints.len;have hqb:=Ap hO.ints.ncap hO.ints.nmax;unfold maxLen at hqb;have g50:w1.cell? ⟨p,50,none⟩=some (.string (G0 s.pend)):=hm1.ses.blk.cell 50;have g56:w1.cell? ⟨p,56,none⟩=some v.told:=hm1.ses.blk.cell 56;have g57:w1.cell? ⟨p,57,none⟩=some v.vis:=hm1.ses.blk.cell 57;have f50:=hm1.ses.blk.frozen 50;have f56:=hm1.ses.blk.frozen 56;have f57:=hm1.ses.blk.frozen 57;rw[←HQ.out.1]at g50;obtain⟨col2,hm2,ht2,hz2,ha2⟩:=hm1.fresh ah;have hk2:∀k,k<w.heap.size→col k=4∨col k=5∨col k=6→_=w.heap[k]? ∧ col2 k=0:=fun k hk hc=>
  ⟨(ha2.block k (Bn hk he.hsize) (fun e=>by have:=H.out.ses.own;rw[←e]at this;omega)).trans (Below.block he k hk),hz2 k (by rw[Ty hk];exact hc)⟩
 rw[←HQ.out.2.2]at hm2;rw[←HQ.out.2.1]at hm2 ht2 hk2;unfold nl at hm2 ht2 hk2;have HK2:=A4 hk2;have HD2:=A4 (hD1.trn ht2);have HM2:=A4 hm2;have HT2:=A4 (ht1.trans ht2);have hzw:=he.hsize;have hzw2:=ha2.size;rw[←HQ.out.2.1]at hzw2;unfold nl at hzw2;have HZW:=A4 (Ap hzw hzw2);clear hm1 ht1 hD1 hm2 ht2 d50 d55 he hO HFd hk2 hz2 ha2 hzw hzw2;have HLQ:=A4 hlq;clear hlq;go_upto_region 7 with fail
 clear g50 g56 g57 f50 f56 f57;generalize Bb (Bb (Bb _ _ _) _ _) _ _=w2 at*;go_wp2_with fail
 go_loopw [41] (fun s41 wx=>∃i:Nat,i≤q∧s41=.int .i64 i∧Hid (Br p w2 col2 (Cx s0 (l.take i)) wx)) (fun s41 _=>q-(intOf s41).toNat)
 case atStart=>exact⟨0,by omega,rfl,A4 ⟨col2,_,HM2.out,Kp.refl _ _⟩⟩
 case round=>
  obtain⟨i,hi,rfl,HDs⟩:=hrel;obtain⟨c8,v8,hm8,ht8⟩:=HDs.out;by_cases hlt:i<q
  ·have hin:=(HD2.out.trn ht8).here.ints
   obtain⟨ad,e,hc⟩:=hin.at_ (k:=i) hlt;subst e;have hci:=hc i hlt;have d55:wr.cell? ⟨p,55,none⟩=some (.bool (Cx s0 (l.take i)).over):=hm8.ses.blk.cell 55;clear hc hin;cases hov:(Cx s0 (l.take i)).over with
   |true=>
    rw[hov]at d55;have hlast:Cx s0 l=Cx s0 (l.take i):=by
     have h1:=bP s0 (l.take i) (l.drop i);rw[List.take_append_drop]at h1;rw[h1,Zt hov]
    rw[←hlast]at hm8;clear hov hlast HDs;exact I1
   |false=>
    rw[hov]at d55;obtain⟨hg,hv⟩:=HA.out i (by rw[HLQ.out];exact hlt) hov
    have HKey:=A4 (qF hm8 hg (gI l i));have HV:=A4 hv;have HT8:=A4 ht8;have HN:Hid (Cx s0 (l.take (i+1))=V8 (Fg (Cx s0 (l.take i)) (gI l i))):=A4 (by
     have hke:l.take (i+1)=l.take i++[gI l i]:=by
      rw[List.take_add_one];have hlk:i<l.length:=by rw[HLQ.out];exact hlt
      unfold gI;rw[List.getElem?_eq_getElem hlk]
      rfl
     rw[hke,bO];unfold Jl;rw[if_neg (by rw[hov];decide)])
    clear hm8 ht8 hg hv hov HDs;go_wp2_with fail
    refine HKey.out.mono ?_
    rintro e w9 ⟨rfl,col9,v9,hm9,ht9⟩;obtain⟨W,hW⟩:=HV.out.row;have HSh:=A4 (lT hm9 HV.out.line hW HV.out.vis);have HT9:=A4 ht9;clear hm9 ht9 hW hci d55;go_wp2_with fail
    refine HSh.out.mono ?_
    rintro e w10 ⟨rfl,hd⟩;have H10:Hid (Br p w2 col2 (Cx s0 (l.take (i+1))) w10):=A4 (by rw[HN.out];exact Br.trans HT8.out (Br.trans HT9.out hd))
    clear hd HSh HKey;go_wp2_with fail
    go_roundw
    case rel=>exact⟨i+1,by omega,by go_num,H10⟩
    case measure=>simp[intOf];omega
  ·obtain rfl:i=q:=by omega
   have hta:l.take i=l:=List.take_of_length_le (by rw[HLQ.out];exact Nat.le_refl _)
   rw[hta]at hm8;clear hta HDs;exact I1
def Pf (x:Int):Prop:=0≤x∧x≤1114111
def Ez (l:List Int):Prop:=∀x∈l,Pf x
theorem Pf.wf (h:Pf x):(Lit.int .i64 x).wf=true:=eD (by have:=h.1;omega) (by have:=h.2;omega)
theorem Ez.nil:Ez []:=fun _ h=>by cases h
theorem Ez.app {a b:List Int}(ha:Ez a)(hb:Ez b):Ez (a++b):=fun x hx=>(List.mem_append.1 hx).elim (ha x) (hb x)
theorem Ez.take (h:Ez l)(n:Nat):Ez (l.take n):=fun x hx=>h x (List.mem_of_mem_take hx)
theorem Ez.drop (h:Ez l)(n:Nat):Ez (l.drop n):=fun x hx=>h x (List.mem_of_mem_drop hx)
theorem Ez.one (h:Pf x):Ez [x]:=fun y hy=>by rw[List.mem_singleton.1 hy];exact h
theorem Pf.turn (h:Pf x):Pf (Lv x):=by
 obtain⟨h1,h2⟩:=h;unfold Lv Pf;split
 ·omega
 ·split<;>omega
theorem Ez.case (h:Ez l)(a k:Nat):Ez (Pu l a k):=by
 unfold Pu;refine((h.take a).app fun x hx=>?_).app (h.drop _)
 obtain⟨y,hy,rfl⟩:=List.mem_map.1 hx;exact((h.drop a).take k y hy).turn
theorem Ez.fill (h:Ez l)(a k:Nat)(hx:Pf x):Ez (Pq l a k x):=by
 unfold Pq;exact((h.take a).app fun y hy=>by rw[(List.mem_replicate.1 hy).2];exact hx).app (h.drop _)
theorem Ez.rep {x:List Int}(h:Ez x)(n:Nat):Ez (Gn n x):=by
 unfold Gn;intro y hy;obtain⟨l,hl,hy⟩:=List.mem_flatten.1 hy;rw[(List.mem_replicate.1 hl).2]at hy;exact h y hy
theorem Ez.put (hr:∀i,Ez (rl i)){x:List Int}(hx:Ez x)(i:Nat)(m:Bool)(j:Nat):Ez (Nx rl i m x j):=by
 have hy:Ez (if m=true then rl i++x else x):=by
  split
  ·exact(hr i).app hx
  ·exact hx
 unfold Nx kG;split
 ·exact hy
 ·split
  ·exact hy
  ·exact hr j
theorem Ez.got (hr:∀i,Ez (rl i))(k:Int):Ez (Ny rl k):=by
 unfold Ny;split
 ·exact Ez.nil
 ·exact hr _
theorem Kr.cha {a:Int}{k2 k3:Int}{f t:Nat}{whole:Bool}{e:List Fh}(h:Kr l a rl k2 k3 f t whole m at_ md rl' e)(hft:f≤t)(hl:Ez l)(hr:∀i,Ez (rl i)):
 Ez m∧(∀i,Ez (rl' i))∧(md=0∨md=1):=by
 obtain⟨_,⟨hk1,hk2⟩,hm⟩:=h;refine⟨?_,fun i=>?_,?_⟩
 ·rcases hm with⟨_,rfl,_⟩|⟨_,rfl,_⟩
  ·exact hl
  ·exact(hl.take f).app (hl.drop t)
 ·rcases Nat.lt_or_ge f t with hlt|hge
  ·obtain⟨j,b,_,_,rfl⟩:=hk2 hlt
   exact Ez.put hr ((hl.drop f).take _) j b i
  ·rw[hk1 (by omega)];exact hr i
 ·rcases hm with⟨_,_,h,_⟩|⟨_,_,_,⟨_,_,h⟩|⟨_,h,_⟩⟩
  ·exact .inl h
  ·exact .inr h
  ·exact .inl h
theorem Gg.cha {n a:Nat}{k1 k2 v k5:Int}{e:List Fh}(h:Gg l n a rl k1 k2 v k5 m at_ md e)(hl:Ez l)(hr:∀i,Ez (rl i))(h5:Pf k5):
 Ez m∧(md=0∨md=1∨md=2):=by
 have hp:∀{p:Nat},Jf l n p rl k1 k2 m at_ e→Ez m:=fun hh=>by
  obtain⟨_,rfl,_⟩:=hh;exact((hl.take _).app ((Ez.got hr k2).rep _)).app (hl.drop _)
 rcases h with⟨_,h,hm⟩|⟨_,h,hm⟩|⟨_,_,rfl,_,_,hm⟩|⟨_,_,rfl,_,_,hm⟩|⟨rfl,_,h⟩
 ·exact⟨hp h,.inl hm⟩
 ·exact⟨hp h,.inl hm⟩
 ·exact⟨hl.case _ _,.inl hm⟩
 ·exact⟨hl.fill _ _ h5,.inl hm⟩
 ·refine⟨hl,?_⟩
  rcases h with⟨_,_,h⟩|⟨_,_,h⟩|⟨_,_,h⟩|⟨_,_,h⟩|⟨_,_,h⟩
  ·exact .inr (.inl h)
  ·exact .inr (.inl h)
  ·exact .inr (.inl h)
  ·exact .inr (.inl h)
  ·exact .inr (.inr h)
theorem Jj.cha {n a:Nat}{k1 k2 o v k5 fk fa zk za:Int}{ed:List Fh}(h:Jj l n a rl k1 k2 o v k5 fk fa m at_ md zk za rl' ed)(ha:a≤n-1)(hl:Ez l)(hr:∀i,Ez (rl i))(h5:Pf k5):
 Ez m∧(∀i,Ez (rl' i))∧(md=0∨md=1∨md=2):=by
 have up:∀{md:Int},md=0∨md=1→md=0∨md=1∨md=2:=fun h=>h.elim .inl fun h=>.inr (.inl h)
 rcases h with⟨_,mk,ma,_,⟨_,_,rfl,rfl,rfl,_⟩|⟨_,f,t,h1,h2⟩⟩|⟨_,_,_,_,rfl,h⟩|⟨_,_,_,_,f,t,whole,h1,h2,_,h3⟩
 ·exact⟨hl,hr,.inl rfl⟩
 ·obtain⟨k1,k2,k3⟩:=h2.cha (h1.bd ha).2.2.1 hl hr
  exact⟨k1,k2,up k3⟩
 ·obtain⟨k1,k3⟩:=h.cha hl hr h5
  exact⟨k1,hr,k3⟩
 ·obtain⟨k1,k2,k3⟩:=h3.cha h1 hl hr
  exact⟨k1,k2,up k3⟩
structure uA (d:Dn):Prop where
 tx:Ez d.tx
 rl:∀i,Ez (d.rl i)
 len:d.tx.length≤200
 lo:0≤d.at_
 hi:d.at_≤d.tx.length
 md:d.md=0∨d.md=1∨d.md=2
theorem Tz {a fk fa:Int}(h:Pi l rl a fk fa c=some d)(hl:Ez l)(hr:∀i,Ez (rl i))(h5:Pf c.arg)(hn:l.length≤200):uA d:=by
 obtain⟨hv,ed,h1⟩:=Zf h;have ha:=Ms hv.1.2.1 hv.1.2.2;obtain⟨k1,k2,k3⟩:=h1.cha ha hl hr h5;obtain⟨b1,b2,b3,b4,_⟩:=lF h1 rfl hn ha;refine⟨k1,k2,b1,b2,?_,k3⟩
 by_cases hm:d.md=0
 ·have:=b3 hm;omega
 ·exact b4 hm
theorem sO {a fk fa:Int}(h:Pi l rl a fk fa c=some d)(hn:l.length≤200):d.tx.length≤200:=by
 obtain⟨hv,ed,h1⟩:=Zf h;exact(lF h1 rfl hn (Ms hv.1.2.1 hv.1.2.2)).1
theorem nQ {md:Int}{a:Nat}{b:Nat}(h:Hy md l a k=some (m,b))(hl:Ez l)(hk:Pf k):Ez m:=by
 unfold Hy at h
 repeat' split at h
 all_goals first
  |(cases h;done)
  |(
   injection h with h;injection h with h1 h2;subst h1
   first
    |exact((hl.take _).app (Ez.one hk)).app (hl.drop _)
    |exact((hl.take _).app Ez.nil).app (hl.drop _)
    |exact hl)
theorem fY {p:Pt}(hk:Pf k):Pf (Cp p k).c.arg:=by
 have z:Pf 0:=⟨by decide,by decide⟩
 unfold Cp
 repeat' split
 all_goals first
  |exact z
  |exact hk
  |(
   unfold Fl
   repeat' split
   all_goals first
    |exact z
    |exact hk)
structure Sk (h:Hi):Prop where
 lo:1≤h.most
 hi:h.most≤50
 len:(h.lines.length:Int)≤h.most
 at0:0≤h.at_
 at1:h.at_≤h.lines.length
 lines:∀l∈h.lines,Ez l∧l.length≤200
 scratch:Ez h.scratch∧h.scratch.length≤200
 pattern:h.pattern.length≤200
theorem lA (h:i<ls.length):gL ls i∈ls:=by
 unfold gL;exact I128
theorem vT (h:ls.length≤i):gL ls i=[]:=by
 unfold gL;rw[List.getElem?_eq_none h]
 rfl
theorem Sk.nolong (k:Sk h):¬h.long:=fun⟨i,hi,hlt⟩=>by
 have hm:=lA hi;unfold Hi.all at hm hi hlt;rcases List.mem_append.1 hm with hm|hm
 ·have:=(k.lines _ hm).2;omega
 ·rcases List.mem_cons.1 hm with e|hm
  ·rw[e]at hlt;have:=k.scratch.2;omega
  ·rw[Et.1 hm]at hlt;have:=k.pattern;omega
theorem Sk.nobad (k:Sk h):¬h.bad:=fun hb=>by
 have h1:=k.lo;have h2:=k.hi;have h3:=k.len;have h4:=k.at0;have h5:=k.at1;unfold Hi.bad at hb;omega
theorem Sk.gl (k:Sk h)(i:Nat):Ez (gL h.lines i)∧(gL h.lines i).length≤200:=by
 rcases Nat.lt_or_ge i h.lines.length with hlt|hge
 ·exact k.lines _ (lA hlt)
 ·rw[vT hge];exact⟨Ez.nil,Aw _⟩
theorem Sk.toS (k:Sk h)(hn:Ez now∧now.length≤200):Ez (toS h now)∧(toS h now).length≤200:=by
 unfold Go.Proofs.YtiahhfglhlgfiaaGreat.toS;split
 ·exact hn
 ·exact k.scratch
theorem Sk.toL (k:Sk h)(hn:Ez now∧now.length≤200)(i:Nat):Ez (toL h now i)∧(toL h now i).length≤200:=by
 unfold Go.Proofs.YtiahhfglhlgfiaaGreat.toL;split
 ·exact k.toS hn
 ·exact k.gl i
theorem Sk.toH (k:Sk h)(hn:Ez now∧now.length≤200)(hi:i≤h.lines.length):Sk (toH h now i):=
 ⟨k.lo,k.hi,k.len,J0c i,by
  show(i:Int)≤_;have:(i:Int)≤h.lines.length:=by omega
  exact this,k.lines,k.toS hn,k.pattern⟩
theorem Sk.findH (k:Sk h){now p:List Int}(hn:Ez now∧now.length≤200)(hp:p.length≤200)(older:Bool)(hi:i<h.lines.length):Sk (findH h now p older i):=
 ⟨k.lo,k.hi,k.len,J0c i,by
  show(i:Int)≤_;have:(i:Int)≤h.lines.length:=by omega
  exact this,k.lines,k.toS hn,by show(Jp h p).length≤200;unfold Jp;split;exact k.pattern;exact hp⟩
theorem Sk.add (k:Sk h){line:List Int}(hl:Ez line∧line.length≤200):Sk (Pl h line):=by
 have e:Pl h line=kJ h line:=by unfold Pl;rw[if_pos ⟨k.nobad,k.nolong,hl.2⟩]
 rw[e];have hm:((Lb h line).length:Int)≤h.most:=by
  unfold Lb;split
  ·exact k.len
  ·unfold dX
   have h1:=k.lo;rw[Ct,List.length_append,List.length_singleton];omega
 refine⟨k.lo,k.hi,hm,J0c _,Lc _,fun l hl'=>?_,⟨Ez.nil,Aw _⟩,k.pattern⟩
 have hl':l∈Lb h line:=hl';unfold Lb at hl';split at hl'
 ·exact k.lines l hl'
 ·have:=List.mem_of_mem_drop hl'
  rcases List.mem_append.1 this with h1|h1
  ·exact k.lines l h1
  ·rw[Et.1 h1];exact hl
structure fN (K:Nat)(c:Cm)(ks:List Int):Prop where
 arg:Pf c.arg
 keys:∀k∈ks,Pf k∧k≠27
 len:ks.length≤K
theorem fN.mono {K K':Nat}{ks:List Int}(h:fN K c ks)(hk:K≤K'):fN K' c ks:=⟨h.arg,h.keys,Ap h.len hk⟩
structure Dy (K L T:Nat)(s:PS):Prop where
 tx:Ez s.tx
 line:pL s
 rl:∀i,Ez (s.rl i)
 past:s.past.length≤30
 pasts:∀x∈s.past,Ez x.1∧x.1.length≤200∧0≤x.2∧x.2≤x.1.length
 first:Ez s.first∧s.first.length≤200
 hist:Sk s.hi
 ask:s.ask.length≤200
 last:∀c ks,s.last=some (c,ks)→fN L c ks
 now:∀c ks,s.now=some (c,ks)→fN K c ks
 mode:s.mode=0∨s.mode=1∨s.mode=2∨s.mode=3
 idle:s.mode=0∨s.mode=3→s.now=none
 part:F5 s.part=true
 told:s.told.length≤T
theorem Dy.mono {K K' L L' T T':Nat}(h:Dy K L T s)(hk:K≤K')(hl:L≤L')(ht:T≤T'):Dy K' L' T' s:=
 {
  h with
  last:=fun c ks e=>(h.last c ks e).mono hl
  now:=fun c ks e=>(h.now c ks e).mono hk
  told:=Ap h.told ht }
theorem Dy.zero (h:Dy K L T s)(hn:s.now=none):Dy 0 L T s:={ h with now:=fun c ks e=>by rw[hn]at e;cases e }
theorem Dy.full (h:Dy K L T s):Ez s.tx∧s.tx.length≤200:=⟨h.tx,h.line.len⟩
theorem Dy.bell (h:Dy K L T s):Dy K L (T+1) (Fe s):=
 {
  h with
  line:=⟨h.line.len,h.line.lo,h.line.hi⟩
  told:=by show(s.told++[_]).length≤_;have:=h.told;simp;omega }
theorem Dy.part' (h:Dy K L T s){pt:Pt}(hp:F5 pt=true):Dy K L T { s with part:=pt }:=
 {
  h with
  line:=⟨h.line.len,h.line.lo,h.line.hi⟩
  part:=hp }
theorem eR (h:Dy K L T s):∀c ks,s.now.or s.last=some (c,ks)→fN (max K L) c ks:=fun c ks e=>by
 cases hn:s.now with
 |none=>rw[hn]at e;exact(h.last c ks e).mono (Nat.le_max_right _ _)
 |some x=>rw[hn]at e;exact(h.now c ks (by rw[hn];exact e)).mono (Nat.le_max_left _ _)
theorem Dy.leave (h:Dy K L T s):Dy 0 (max K L) T (Xe s):=
 {
  h with
  line:=⟨h.line.len,by show 0≤max 0 (s.at_-1);omega,by show max 0 (s.at_-1)≤(s.tx.length:Int);have:=h.line.hi;have:=h.line.lo;omega⟩
  last:=eR h
  now:=nofun
  idle:=fun _=>rfl
  mode:=.inl rfl }
theorem Dy.typed1 (h:Dy K L T s){key:Int}(hk:Pf key)(h27:key≠27):Dy (K+1) L (T+1) (Eb s key):=by
 unfold Eb;rw[if_neg h27];cases he:Hy s.mode s.tx s.at_.toNat key with
 |none=>exact h.bell.mono (Cw _) (Ai _) (Ai _)
 |some r=>
  obtain⟨m,b⟩:=r;have hb:=Tx he h.line.len (by have:=h.line.hi;omega)
  have h':=h.mono (Cw K) (Ai L) (Cw T);exact {
   h' with
   tx:=nQ he h.tx hk
   line:=⟨hb.1,J0c b,by show(b:Int)≤(m.length:Int);omega⟩
   idle:=fun e=>by show s.now.map _=none;rw[h.idle e];rfl
   now:=fun c ks e=>by
    have e:s.now.map (fun x=>(x.1,x.2++[key]))=some (c,ks):=e
    cases hn:s.now with
    |none=>rw[hn]at e;cases e
    |some y=>
     rw[hn]at e;injection e with e;injection e with e1 e2;subst e1 e2;have ho:=h.now y.1 y.2 hn;refine⟨ho.arg,fun k hk'=>?_,by have:=ho.len;simp;omega⟩
     rcases List.mem_append.1 hk' with h1|h1
     ·exact ho.keys k h1
     ·rw[Et.1 h1];exact⟨hk,h27⟩ }
theorem Vh (s:PS):Eb s 27=Xe s:=if_pos rfl
theorem Dy.typed (h:Dy K L T s){key:Int}(hk:Pf key):Dy (K+1) (max K L) (T+1) (Eb s key):=by
 by_cases h27:key=27
 ·subst h27
  rw[Vh];exact h.leave.mono (Aw _) (Ai _) (Cw _)
 ·exact(h.typed1 hk h27).mono (Ai _) (Nat.le_max_right _ _) (Ai _)
theorem Dy.keys (h:Dy K L T s):∀{ks:List Int},(∀k∈ks,Pf k∧k≠27)→Dy (K+ks.length) L (T+ks.length) (keysF s ks):=by
 intro ks
 induction ks generalizing s K T with
 |nil=>exact fun _=>h
 |cons k ks ih=>
  intro hk;have hk1:=hk k List.mem_cons_self;have h1:=ih (h.typed1 hk1.1 hk1.2) (fun x hx=>hk x (List.mem_cons_of_mem _ hx))
  have e:keysF s (k::ks)=keysF (Eb s k) ks:=rfl;exact I67
theorem Dy.beg (h:Dy K L T s)(hn:s.now=none)(hl:Ez l∧l.length≤200){md:Int}(hm:md=0∨md=1∨md=2∨md=3):Dy K L T (Yg s l md):=
 {
  h with
  tx:=hl.1
  line:=⟨hl.2,by
   show 0≤cond (md==0) (max 0 ((l.length:Int)-1)) 0
   cases md==0<;>simp only[cond_true,cond_false]<;>omega,by
   show cond (md==0) (max 0 ((l.length:Int)-1)) 0≤(l.length:Int)
   cases md==0<;>simp only[cond_true,cond_false]<;>omega⟩
  first:=hl
  past:=Aw _
  pasts:=fun x hx=>by cases hx
  mode:=hm
  idle:=fun _=>hn
  part:=Sm }
theorem Dy.hist' (h:Dy K L T s){hi:Hi}(hh:Sk hi):Dy K L T { s with hi:=hi }:=
 {
  h with
  line:=⟨h.line.len,h.line.lo,h.line.hi⟩
  hist:=hh }
theorem Dy.moved (h:Dy K L T s)(hn:s.now=none){hi:Hi}(hh:Sk hi)(hl:Ez l∧l.length≤200):Dy K L T (Mi s hi l):=
 (h.hist' hh).beg hn hl (.inl rfl)
theorem Dy.accept (h:Dy K L T s):Dy K L (T+1) (Sw s):=by
 have h1:Dy K L (T+1) { s with hi:=Pl s.hi s.tx,told:=s.told++[(2,s.tx)],now:=none }:=
  {
   h with
   line:=⟨h.line.len,h.line.lo,h.line.hi⟩
   hist:=h.hist.add h.full
   now:=nofun
   idle:=fun _=>rfl
   told:=by show(s.told++[_]).length≤_;have:=h.told;simp;omega }
 exact I122
theorem Dy.brk (h:Dy K L T s):Dy K L (T+1) (Tb s):=by
 have h1:Dy K L (T+1) { s with told:=s.told++[(3,[])],now:=none,hi:=⟨s.hi.lines,s.hi.most,(s.hi.lines.length:Int),[],s.hi.pattern,s.hi.older⟩ }:=
  {
   h with
   line:=⟨h.line.len,h.line.lo,h.line.hi⟩
   hist:=⟨h.hist.lo,h.hist.hi,h.hist.len,J0c _,Lc _,h.hist.lines,⟨Ez.nil,Aw _⟩,h.hist.pattern⟩
   now:=nofun
   idle:=fun _=>rfl
   told:=by show(s.told++[_]).length≤_;have:=h.told;simp;omega }
 exact I122
theorem vS {l:List (List Int×Int)}(h:i<l.length):gP l i∈l:=by
 unfold gP;exact I128
theorem Dy.undone (h:Dy K L T s):Dy K L (T+1) (J7 s):=by
 unfold J7;split
 ·exact h.bell
 ·rename_i h0
  have h':=h.mono (Ai K) (Ai L) (Cw T);have hg:=h.pasts _ (vS (show s.past.length-1<s.past.length by omega))
  exact { h' with
   tx:=hg.1
   line:=⟨hg.2.1,hg.2.2.1,hg.2.2.2⟩
   past:=by show(s.past.take _).length≤30;rw[List.length_take];have:=h.past;omega
   pasts:=fun x hx=>h.pasts x (List.mem_of_mem_take hx) }
theorem Dy.save (h:Dy K L T s):Dy K L T (Pm s):=
 {
  h with
  line:=⟨h.line.len,h.line.lo,h.line.hi⟩
  past:=by show((s.past++[(s.tx,s.at_)]).drop _).length≤30;rw[Ct];simp;omega
  pasts:=fun x hx=>by
   have:=List.mem_of_mem_drop hx;rcases List.mem_append.1 this with h1|h1
   ·exact h.pasts x h1
   ·rw[Et.1 h1];exact⟨h.tx,h.line.len,h.line.lo,h.line.hi⟩ }
theorem Dy.first0 (h:Dy K L T s):Dy K L (T+1) (Kt s):=by
 unfold Kt;cases V6 s.tx s.first with
 |true=>exact h.bell
 |false=>
  have h':=h.save.mono (Ai K) (Ai L) (Cw T);exact { h' with
   tx:=h.first.1
   line:=⟨h.first.2,Lc 0,J0c _⟩ }
theorem Dy.does (h:Dy 0 L T s)(hd:uA d)(hc:Pf c.arg)(hn:s.now=none):Dy 0 L T (Ni s c d):=by
 obtain⟨s1,hs1⟩:∃x,x=G7 s c:=⟨_,rfl⟩;have h1:Dy 0 L T { s1 with mode:=1 }:=by
  rw[hs1];unfold G7;split
  ·have h2:=h.save
   exact { h2 with
    line:=⟨h2.line.len,h2.line.lo,h2.line.hi⟩
    mode:=.inr (.inl rfl)
    idle:=fun e=>by rcases e with e|e<;>cases e
    now:=fun c' ks e=>by
     injection e with e;injection e with e1 e2;subst e1 e2;exact⟨hc,(fun k hk=>by cases hk),Aw _⟩ }
  ·exact { h with
    line:=⟨h.line.len,h.line.lo,h.line.hi⟩
    mode:=.inr (.inl rfl)
    idle:=fun _=>hn }
 unfold Ni Pn;rw[←hs1];split
 ·exact { h1 with
   tx:=hd.tx
   line:=⟨hd.len,hd.lo,hd.hi⟩
   rl:=hd.rl
   last:=fun c ks e=>(eR h1 c ks e).mono (by omega)
   mode:=by rename_i e;exact .inl e
   idle:=fun _=>rfl
   now:=nofun }
 ·rename_i hne
  have hne:d.md≠0:=hne;have hm:=hd.md;exact { h1 with
   tx:=hd.tx
   line:=⟨hd.len,hd.lo,hd.hi⟩
   rl:=hd.rl
   mode:=by show d.md=0∨d.md=1∨d.md=2∨d.md=3;omega
   idle:=fun e=>by
    have e:d.md=0∨d.md=3:=e;omega }
theorem Dy.doS (h:Dy 0 L T s)(hn:s.now=none)(hc:Pf c.arg):Dy 0 L (T+1) (doS s c):=by
 unfold Go.Proofs.YtiahhfglhlgfiaaGreat.doS;cases he:Pi s.tx s.rl s.at_ s.fk s.fa c with
 |none=>exact h.bell
 |some d=>exact(h.does (Tz he h.tx h.rl hc h.line.len) hc hn).mono (Ai _) (Ai _) (Cw _)
theorem Dy.dot (h:Dy 0 L T s)(hn:s.now=none){n:Int}{ks:List Int}(hl:s.last=some (c,ks))(he:Pi s.tx s.rl s.at_ s.fk s.fa (Cf c n)=some d):Dy 0 L T (Ni s (Cf c n) d):=by
 have hc:=h.last c ks hl;have harg:Pf (Cf c n).arg:=by unfold Cf;split<;>exact hc.arg
 exact h.does (Tz he h.tx h.rl harg h.line.len) harg hn
theorem Dy.again (h:Dy 0 L T s)(hn:s.now=none)(n:Int):Dy 0 L (T+L+1) (Gr s n):=by
 unfold Gr;cases hl:s.last with
 |none=>exact h.bell.mono (by omega) (by omega) (by omega)
 |some x=>
  obtain⟨c,ks⟩:=x;have hc:=h.last c ks hl;simp only;cases he:Pi s.tx s.rl s.at_ s.fk s.fa (Cf c n)with
  |none=>exact h.bell.mono (by omega) (by omega) (by omega)
  |some d=>
   have h1:=h.dot hn hl he;simp only;split
   ·exact h1.mono (by omega) (by omega) (by omega)
   ·have h2:=h1.keys (ks:=ks) hc.keys
    have:=hc.len;rw[Vh];exact h2.leave.mono (by omega) (by omega) (by omega)
theorem Dy.up (h:Dy 0 L T s)(hn:s.now=none)(k:Int):Dy 0 L (T+1) (pN s k):=by
 unfold pN;split
 ·rename_i hg
  exact(h.moved hn (h.hist.toH h.full (by have:=h.hist.at0;have:=h.hist.at1;omega)) (h.hist.toL h.full _)).mono (Ai _) (Ai _) (Cw _)
 ·exact h.bell
theorem Dy.down (h:Dy 0 L T s)(hn:s.now=none)(k:Int):Dy 0 L (T+1) (Pr s k):=by
 unfold Pr;split
 ·rename_i hg
  exact(h.moved hn (h.hist.toH h.full (by have:=hg.2;have:=h.hist.at0;omega)) (h.hist.toL h.full _)).mono (Ai _) (Ai _) (Cw _)
 ·exact h.bell
theorem Dy.jump (h:Dy 0 L T s)(hn:s.now=none)(k:Int):Dy 0 L (T+1) (Po s k):=by
 unfold Po;split
 ·rename_i hg
  exact(h.moved hn (h.hist.toH h.full (by have:=hg.2;have:=hg.1.2.2.2;unfold Pp;omega)) (h.hist.toL h.full _)).mono (Ai _) (Ai _) (Cw _)
 ·exact h.bell
theorem Dy.find (h:Dy 0 L T s)(hn:s.now=none)(pat:List Int)(older keep:Bool):Dy 0 L (T+1) (Fy s pat older keep):=by
 unfold Fy;split
 ·rename_i hx
  have hs:=hx.choose_spec;exact(h.moved hn (h.hist.findH h.full hs.1.2.1 keep hs.2) (h.hist.toL h.full _)).mono (Ai _) (Ai _) (Cw _)
 ·exact h.bell
theorem Dy.asks (h:Dy 0 L T s)(hn:s.now=none)(older:Bool):Dy 0 L T (fL s older):=
 {
  h with
  line:=⟨h.line.len,h.line.lo,h.line.hi⟩
  ask:=Aw _
  mode:=.inr (.inr (.inr rfl))
  idle:=fun _=>hn }
theorem Dy.command (h:Dy 0 L T s)(hn:s.now=none)(hc:Pf c.arg):Dy 0 L (T+L+1) (Gf s c):=by
 unfold Gf
 repeat' split
 all_goals first
  |exact(h.doS hn hc).mono (by omega) (by omega) (by omega)
  |exact h.undone.mono (by omega) (by omega) (by omega)
  |exact h.first0.mono (by omega) (by omega) (by omega)
  |exact h.again hn _
  |exact(h.up hn _).mono (by omega) (by omega) (by omega)
  |exact(h.down hn _).mono (by omega) (by omega) (by omega)
  |exact(h.jump hn _).mono (by omega) (by omega) (by omega)
  |exact(h.find hn _ _ _).mono (by omega) (by omega) (by omega)
  |exact(h.asks hn _).mono (by omega) (by omega) (by omega)
theorem Dy.calm (h:Dy K L T s)(hn:s.now=none):Dy K L T { s with mode:=0 }:=
 {
  h with
  line:=⟨h.line.len,h.line.lo,h.line.hi⟩
  mode:=.inl rfl
  idle:=fun _=>hn }
theorem Dy.asked (h:Dy 0 L T s)(hn:s.now=none)(key:Int):Dy 0 L (T+1) (P5 s key):=by
 unfold P5;have hT:=h.mono (Ai 0) (Ai L) (Cw T);split
 ·exact(h.calm hn).find hn _ _ _
 split
 ·exact hT.calm hn
 split
 ·split
  ·exact hT.calm hn
  ·exact { hT with
    line:=⟨h.line.len,h.line.lo,h.line.hi⟩
    ask:=by show s.ask.dropLast.length≤200;have:=h.ask;rw[List.length_dropLast];omega }
 split
 ·exact h.bell
 ·rename_i hk
  exact { hT with
   line:=⟨h.line.len,h.line.lo,h.line.hi⟩
   ask:=by
    show(s.ask++[key]).length≤200
    have:=h.ask;have:s.ask.length≠200:=fun e=>hk (.inr e)
    simp;omega }
theorem Dy.key (h:Dy N N T s){key:Int}(hk:Pf key):Dy (N+1) (N+1) (T+N+1) (Fg s key):=by
 unfold Fg;have hmx:max N N=N:=Nat.max_self N;split
 ·exact h.brk.mono (by omega) (by omega) (by omega)
 split
 ·rename_i hm
  have hn:=h.idle (.inr hm);exact((h.zero hn).asked hn key).mono (by omega) (by omega) (by omega)
 split
 ·exact h.accept.mono (by omega) (by omega) (by omega)
 split
 ·split
  ·exact(h.mono (Ai _) (Ai _) (Ai _) |> fun h=>({ h with
    line:=⟨h.line.len,h.line.lo,h.line.hi⟩
    told:=by show(s.told++[_]).length≤T+N+1;have:=h.told;simp;omega }:Dy N N (T+N+1) { s with told:=s.told++[(4,[])],over:=true })).mono (by omega) (by omega) (by omega)
  ·exact h.bell.mono (by omega) (by omega) (by omega)
 split
 ·exact(h.typed hk).mono (by omega) (by omega) (by omega)
 ·rename_i hm3 _ _ hm0
  have hm0:s.mode=0:=Decidable.not_not.1 hm0;have hn:=h.idle (.inl hm0);have h0:=h.zero hn;have hp:=(bK (k:=key) h.part).1;unfold T4;split
  ·exact((h0.part' hp).command hn (fY hk)).mono (by omega) (by omega) (by omega)
  split
  ·exact((h0.part' hp).bell).mono (by omega) (by omega) (by omega)
  ·exact(h0.part' hp).mono (by omega) (by omega) (by omega)
theorem sM (hn:tU N s)(ht:s.told.length≤T)(hd:uA d)(hm:(Ni s c d).mode≠0):pK N T (Ni s c d):=by
 have hmd:d.md≠0:=fun e=>by
  apply hm
  unfold Ni Pn;rw[if_pos (show(Fz (G7 s c) d).mode=0 from e)]
  exact e
 have e:Ni s c d=Fz (G7 s c) d:=by unfold Ni Pn;rw[if_neg (show ¬(Fz (G7 s c) d).mode=0 from hmd)]
 rw[e];have hk:tU N (G7 s c)∧(G7 s c).told.length≤T:=by
  unfold G7;split
  ·exact⟨fun x hx=>by injection hx with hx;rw[←hx];exact Aw _,ht⟩
  ·exact⟨hn,ht⟩
 have:=hd.md;exact⟨⟨hd.len,hd.lo,hd.hi⟩,by show d.md=1∨d.md=2;omega,hk.1,hk.2⟩
theorem Dy.gok (h:Dy N N T s)(hN:N≤2000000)(hT:T≤400000000000):yC s:=by
 have hk:tU N s:=fun x hx=>(h.now x.1 x.2 hx).len
 refine⟨⟨N,fun pt=>⟨fun x hx=>(h.tx x hx).wf,⟨h.line.len,h.line.lo,h.line.hi⟩,h.past,h.first.2,?_,fun k=>?_,h.ask,fun c d hd=>?_,fun n c ks d hl hd hmd=>?_,fun c ks hl=>?_,hN⟩⟩,h.part,⟨N,by omega,hk⟩,h.mode⟩
 ·show s.told.length≤_;have:=h.told;omega
 ·exact Ap (h.hist.toL h.full k).2 (by decide)
 ·exact Ap (sO hd h.line.len) (by decide)
 ·have hc:=h.last c ks hl
  have harg:Pf (Cf c n).arg:=by unfold Cf;split<;>exact hc.arg
  exact sM hk (by show s.told.length≤_;have:=h.told;omega) (Tz hd h.tx h.rl harg h.line.len) hmd
 ·have:=h.last c ks hl
  exact⟨fun k hk=>(this.keys k hk).2,by have:=this.len;omega⟩
theorem Wv.same {W:Nat}{s s':PS}(h:Wv W s)(h1:s'.width=s.width)(h2:s'.off=s.off)(h3:s'.row=s.row)(h4:s'.rat=s.rat):Wv W s':=
 ⟨h1.trans h.width,h.lo,h.hi,by rw[h2];exact h.off,by rw[h3,h4];exact h.row,by rw[h3];exact h.len⟩
def aI (s:PS):Int×Int×List Int×Int×List Int×List Nat:=(s.width,s.off,s.row,s.rat,s.vis,s.pend)
theorem Tg:aI (Eb s k)=aI s:=by
 unfold Eb;split
 ·rfl
 ·cases Hy s.mode s.tx s.at_.toNat k<;>rfl
theorem rL:∀{ks:List Int} {s:PS},aI (keysF s ks)=aI s:=by
 intro ks
 induction ks with
 |nil=>intro s;rfl
 |cons k ks ih=>
  intro s;have e:keysF s (k::ks)=keysF (Eb s k) ks:=rfl;rw[e,ih,Tg]
theorem aW:aI (Ni s c d)=aI s:=by
 unfold Ni Pn G7
 repeat' split
 all_goals rfl
theorem lB:aI (doS s c)=aI s:=by
 unfold doS;cases Pi s.tx s.rl s.at_ s.fk s.fa c with
 |none=>rfl
 |some d=>exact aW
theorem eV {pat:List Int}{a b:Bool}:aI (Fy s pat a b)=aI s:=by
 unfold Fy;split<;>rfl
theorem dK:aI (Gf s c)=aI s:=by
 unfold Gf;split
 ·exact lB
 split
 ·unfold J7;split<;>rfl
 split
 ·unfold Kt;cases V6 s.tx s.first<;>rfl
 split
 ·unfold Gr
  cases s.last with
  |none=>rfl
  |some x=>
   obtain⟨c',ks⟩:=x;simp only;cases Pi s.tx s.rl s.at_ s.fk s.fa (Cf c' c.count)with
   |none=>rfl
   |some d=>
    simp only;split
    ·exact aW
    ·rw[Tg,rL,aW]
 split
 ·unfold pN;split<;>rfl
 split
 ·unfold Pr;split<;>rfl
 split
 ·unfold Po;split<;>rfl
 split
 ·exact eV
 split
 ·rfl
 ·exact lB
theorem kX:aI (Fg s k)=aI s:=by
 unfold Fg;split
 ·rfl
 split
 ·unfold P5
  split
  ·exact eV (s:={ s with mode:=0 })
  repeat' split
  all_goals rfl
 split
 ·rfl
 split
 ·split<;>rfl
 split
 ·exact Tg
 ·unfold T4
  split
  ·exact dK (s:={ s with part:=(Cp s.part k).p })
  split<;>rfl
end
