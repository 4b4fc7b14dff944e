/-
  Part of the proof: ZVjD.
-/
import Derived.Test.YtkaefdmhlmlhbaaGreatZVjC
import Derived.Test.YtkaefdmhlmlhbaaGreatZVjB
set_option maxRecDepth 100000
set_option maxHeartbeats 16000000
set_option linter.unusedVariables false
set_option linter.unusedSimpArgs false
namespace Go.Proofs.YtkaefdmhlmlhbaaGreat
open Go.RowKit
open _root_.And renaming intro→Ba
open _root_.Nat renaming le_refl→Aj,le_succ→D1,le_trans→Aq,lt_of_lt_of_le→Bn,zero_le→Au
open World renaming setCell→Bf
open _root_.Int renaming le_refl→Lr,natCast_nonneg→Z3v
open _root_.List renaming getElem?_eq_getElem→Bw,length_drop→Cy,mem_singleton→F1
structure GOk (s:PS):Prop where
 keys:∃K,∀pt,SOk K { s with part:=pt }
 part:Fl s.part=true
 now:∃N,N≤1000000000∧KOk N s
 mode:s.mode=0∨s.mode=1∨s.mode=2∨s.mode=3
structure VOk (s:PS):Prop where
 line:LOk s
 vis:s.vis.length≤1000000000
 row:∃W,Xn W s
theorem Q5r {w:World}{col:Nat→Nat}{p:Nat}{v:SV}{s:PS}(h:Dk w col p v s)(g:GOk s)(key:Int):
 Calls Tryz.prog 40 #[.pointer (some ⟨p,0,none⟩),.int .i64 key] w fun e w'=>e=.returned (.tuple #[])∧Bt p w col (Em s key) w':=by
 have nb:∀{x:Int},key≠x→(key==x)=false:=fun h=>by simpa using h
 obtain⟨⟨K,hK⟩,hp,⟨N,hN,hNk⟩,hm⟩:=g;have ok:SOk K s:=hK s.part;have mb:∀{x:Int},s.mode≠x→(s.mode==x)=false:=fun h=>by simpa using h
 unfold Em;by_cases h3:key=3
 ·rw[if_pos h3];subst h3
  exact J8h h ok.told
 rw[if_neg h3];by_cases hm3:s.mode=3
 ·rw[if_pos hm3]
  exact J3p h ok (nb h3) hm3
 rw[if_neg hm3];by_cases h13:key=13∨key=10
 ·rw[if_pos h13]
  exact J3r h ok.line.len ok.told h13 (mb hm3)
 rw[if_neg h13];by_cases h4:key=4
 ·rw[if_pos h4];subst h4
  by_cases ht:s.tx=[]
  ·rw[if_pos ht]
   exact Q3i h ok.told ht (mb hm3)
  ·rw[if_neg ht]
   exact J3q h ok.line.len ok.told ht (mb hm3)
 rw[if_neg h4];by_cases hm0:s.mode≠0
 ·rw[if_pos hm0]
  exact J8g h ok.line hNk hN ok.told (nb h3) (nb fun e=>h13 (.inl e)) (nb fun e=>h13 (.inr e)) (nb h4) (by omega)
 ·rw[if_neg hm0]
  exact Q7a h hK hp (nb h3) (nb fun e=>h13 (.inl e)) (nb fun e=>h13 (.inr e)) (nb h4) (Decidable.not_not.1 hm0)
noncomputable def Fz (s:PS)(k:Int):PS:=if s.over=true then s else Na (Em s k)
noncomputable def Cc (s:PS)(ks:List Int):PS:=ks.foldl Fz s
theorem J2k (s:PS)(ks:List Int)(k:Int):Cc s (ks++[k])=Fz (Cc s ks) k:=by
 unfold Cc;rw[List.foldl_append]
 rfl
theorem Uo (s:PS)(ks ls:List Int):Cc s (ks++ls)=Cc (Cc s ks) ls:=by
 unfold Cc;rw[List.foldl_append]
theorem J0r {s:PS}(h:s.over=true):∀ks,Cc s ks=s:=by
 intro ks
 induction ks with
 |nil=>rfl
 |cons k ks ih=>
  have:Cc s (k::ks)=Cc (Fz s k) ks:=rfl;rw[this,show Fz s k=s from if_pos h]
  exact ih
def En (s:PS)(pd:List Nat):PS:={ s with pend:=pd,told:=[],vis:=[] }
theorem Dk.fresh {w:World}{col:Nat→Nat}{p:Nat}{v:SV}{s:PS}(h:Dk w col p v s)(pd:List Nat):
 ∃col',Dk (((w.setCell ⟨p,50,none⟩ (.string (Fx pd))).setCell ⟨p,56,none⟩ nl).setCell ⟨p,57,none⟩ nl) col' p { v with told:=nl,vis:=nl } (En s pd)∧
  Lb w col (((w.setCell ⟨p,50,none⟩ (.string (Fx pd))).setCell ⟨p,56,none⟩ nl).setCell ⟨p,57,none⟩ nl) col'∧(∀k,col k=4∨col k=5∨col k=6→col' k=0)∧Gn (fun k=>k=p) w (((w.setCell ⟨p,50,none⟩ (.string (Fx pd))).setCell ⟨p,56,none⟩ nl).setCell ⟨p,57,none⟩ nl):=by
 have h7:=h.ses.own;have c:=(((Dj.start (Am.refl w) h.ses.blk).set 50 (.string (Fx pd))).set 56 nl).set 57 nl;have hm:∀c,c≠7→∀k,k<w.heap.size→k=p→col k≠c:=fun c hc k _ e=>by rw[e,h7];exact fun e=>hc e.symm
 have hN:=h.ses.now.turn (col':=col) c.alt (fun k h1 h2=>⟨hm 2 (by decide) k h1 h2,hm 3 (by decide) k h1 h2⟩) fun _ _=>rfl
 have same:∀k x,col k=x→x≠4→x≠5→x≠6→(if col k=4∨col k=5∨col k=6 then 0 else col k)=x:=fun k x e a b c=>by
  rw[if_neg]
  ·exact e
  ·rw[e];exact fun o=>o.elim a fun o=>o.elim b c
 refine⟨fun k=>if col k=4∨col k=5∨col k=6 then 0 else col k,⟨⟨c.to (by kernel_rfl),same p 7 h7 (by decide) (by decide) (by decide),((h.old c.alt).mono fun k _ e=>same k 1 e (by decide) (by decide) (by decide)).imp fun _ h=>⟨h.1,h.2,h.3,h.4,h.5,h.6,h.7,h.8⟩,?_,fun k hk=>?_⟩,⟨none,0,0,[],rfl,B8.nil _ _ _ _,rfl,nofun,fun M w' ha hk i hi=>absurd hi (Nat.not_lt_zero i)⟩,⟨none,0,0,rfl,Ay.nil _ _,nofun⟩⟩,⟨c.alt.mono fun k _ e=>by rw[e,h7];decide,fun k _ hk e=>hk (by show(if _ then _ else _)=_;rw[e];rfl),fun k _ e=>same k 1 e (by decide) (by decide) (by decide)⟩,(fun k hk=>if_pos hk),c.alt⟩
 ·show Qg _ _ v.now s.now
  revert hN
  generalize v.now=a;generalize s.now=o;intro hN;rcases a with _|a<;>rcases o with _|⟨c,l⟩
  ·trivial
  ·exact hN
  ·exact hN
  ·obtain⟨q,y,rfl,h1,h2,h3,h4⟩:=hN
   exact⟨q,y,rfl,same q 2 h1 (by decide) (by decide) (by decide),h2,h3,fun g hg=>same g 3 (h4 g hg) (by decide) (by decide) (by decide)⟩
 ·have hk:(if col k=4∨col k=5∨col k=6 then 0 else col k)≠0:=hk
  split at hk
  ·exact absurd rfl hk
  ·exact Bn (h.ses.dom k hk) c.alt.size
theorem J2l {w:World}{col:Nat→Nat}{p:Nat}{v:SV}{s:PS}{b:ByteArray}(h:Dk w col p v s)(ho:s.over=true):
 Calls Tryz.prog 18 #[.pointer (some ⟨p,0,none⟩),.string b] w fun e w'=>e=.returned (.tuple #[.slice none 0 0,.slice none 0 0,.int .i64 6])∧w'=w:=by
 have d55:w.cell? ⟨p,55,none⟩=some (.bool s.over):=h.ses.blk.cell 55;rw[ho]at d55;clear h ho;go_enter Tryz.func18,Tryz.ntmps18
 go_wp2_with fail
 go_ret3
 exact⟨rfl,rfl⟩
theorem J7b {w:World}{col:Nat→Nat}{p:Nat}{v:SV}{s:PS}{b:ByteArray}(h:Dk w col p v s)(ho:s.over=false)(hp:Xo s.pend)(hlt:∀x∈s.pend,x<256)(hs:4096<b.size):
 Calls Tryz.prog 18 #[.pointer (some ⟨p,0,none⟩),.string b] w fun e w'=>e=.returned (.tuple #[.slice none 0 0,.slice none 0 0,.int .i64 2])∧Am w w':=by
 have d55:w.cell? ⟨p,55,none⟩=some (.bool s.over):=h.ses.blk.cell 55;rw[ho]at d55;have d50:w.cell? ⟨p,50,none⟩=some (.string (Fx s.pend)):=h.ses.blk.cell 50;have HFd:=A6 (Q4a (w:=w) hp hlt hs);clear h ho hp hlt hs;generalize Fx s.pend=sp at*;go_enter Tryz.func18,Tryz.ntmps18
 go_wp2_with fail
 refine HFd.out.mono ?_
 rintro e w1 ⟨rfl,he⟩;have HX:=A6 he;clear he;go_wp2_with fail
 go_ret3
 exact⟨rfl,HX.out⟩
theorem J8u {w w2 wr wq:World}{col col2 c8:Nat→Nat}(h:∀k,k<w.heap.size→col k=4∨col k=5∨col k=6→w2.heap[k]? = w.heap[k]? ∧ col2 k=0)(hz:w.heap.size≤w2.heap.size)(t:Lb w2 col2 wr c8)(he:Am wr wq)
 (k:Nat) (hk:k<w.heap.size) (hc:col k=4∨col k=5∨col k=6):wq.heap[k]? = w.heap[k]? ∧ c8 k=0:=by
 obtain⟨h1,h2⟩:=h k hk hc;have hk2:=Bn hk hz;refine⟨(Below.block he k (Bn hk2 t.1.size)).trans ((t.1.block k hk2 fun hn=>hn.1 h2).trans h1),Decidable.byContradiction fun hn=>t.2 k hk2 hn h2⟩
def Fed (p:Nat)(w:World)(col:Nat→Nat)(s':PS)(e:Ending)(w':World):Prop:=
 ∃col' v',e=.returned (.tuple #[v'.told,v'.vis,.int .i64 0])∧Dk w' col' p v' s'∧Lb w col w' col'∧∀k,k<w.heap.size→col k=4∨col k=5∨col k=6→w'.heap[k]? = w.heap[k]? ∧ col' k=0
theorem Zh {w:World}{col:Nat→Nat}{p:Nat}{v:SV}{s:PS}{b:ByteArray}(h:Dk w col p v s)(ho:s.over=false)(hp:Xo s.pend)(hlt:∀x∈s.pend,x<256)(hs:b.size≤4096)
 (hall:∀i,i<(Da s.pend (Ao b)).out.length→(Cc (En s (Da s.pend (Ao b)).ah) ((Da s.pend (Ao b)).out.take i)).over=false→
  GOk (Cc (En s (Da s.pend (Ao b)).ah) ((Da s.pend (Ao b)).out.take i))∧VOk (Em (Cc (En s (Da s.pend (Ao b)).ah) ((Da s.pend (Ao b)).out.take i)) (gI (Da s.pend (Ao b)).out i))):
 Calls Tryz.prog 18 #[.pointer (some ⟨p,0,none⟩),.string b] w (Fed p w col (Cc (En s (Da s.pend (Ao b)).ah) (Da s.pend (Ao b)).out)):=by
 have d55:w.cell? ⟨p,55,none⟩=some (.bool s.over):=h.ses.blk.cell 55;rw[ho]at d55;have d50:w.cell? ⟨p,50,none⟩=some (.string (Fx s.pend)):=h.ses.blk.cell 50;have HFd:=A6 (Q3z (w:=w) hp hlt hs);have H:=A6 h;generalize Da s.pend (Ao b)=mc at*;obtain⟨sp,hsp⟩:∃x,x=Fx s.pend:=⟨_,rfl⟩;obtain⟨sq,hsq⟩:∃x,x=Fx mc.ah:=⟨_,rfl⟩;rw[←hsp]at d50 HFd;rw[←hsq]at HFd;obtain⟨s0,hs0⟩:∃x,x=En s mc.ah:=⟨_,rfl⟩;rw[←hs0]at hall ⊢;have HA:=A6 hall;have HQ:=A6 (Ba hsp (Ba hsq hs0));clear h ho hp hlt hs hall hsp hsq hs0;obtain⟨ah,l⟩:=mc;simp only at*;go_enter Tryz.func18,Tryz.ntmps18
 go_wp2_with fail
 refine HFd.out.mono ?_
 rintro e w1 ⟨O,q,d,rfl,hO,he⟩;obtain⟨hm1,ht1⟩:=H.out.grow he 1;have hD1:Hh (fun k=>Go.Proofs.YtkaefdmhlmlhbaaGreat.grow col w.heap.size w1.heap.size 1 k=1) w1 fun x=>Ay x 0 O q d l:=
  Hh.own (B8.lower hO (Nat.zero_le _)) fun g hg=>J4 (B8.blk hO g hg).1 (B8.blk hO g hg).2
 have hlq:l.length=q:=hO.ints.len;have hqb:=Aq hO.ints.ncap hO.ints.nmax;unfold maxLen at hqb;have g50:w1.cell? ⟨p,50,none⟩=some (.string (Fx s.pend)):=hm1.ses.blk.cell 50;have g56:w1.cell? ⟨p,56,none⟩=some v.told:=hm1.ses.blk.cell 56;have g57:w1.cell? ⟨p,57,none⟩=some v.vis:=hm1.ses.blk.cell 57;have f50:=hm1.ses.blk.frozen 50;have f56:=hm1.ses.blk.frozen 56;have f57:=hm1.ses.blk.frozen 57;rw[←HQ.out.1]at g50;obtain⟨col2,hm2,ht2,hz2,ha2⟩:=hm1.fresh ah;have hk2:∀k,k<w.heap.size→col k=4∨col k=5∨col k=6→_=w.heap[k]? ∧ col2 k=0:=fun k hk hc=>
  ⟨(ha2.block k (Bn hk he.hsize) (fun e=>by have:=H.out.ses.own;rw[←e]at this;omega)).trans (Below.block he k hk),hz2 k (by rw[Uf hk];exact hc)⟩
 rw[←HQ.out.2.2]at hm2;rw[←HQ.out.2.1]at hm2 ht2 hk2;unfold nl at hm2 ht2 hk2;have HK2:=A6 hk2;have HD2:=A6 (hD1.trn ht2);have HM2:=A6 hm2;have HT2:=A6 (ht1.trans ht2);have hzw:=he.hsize;have hzw2:=ha2.size;rw[←HQ.out.2.1]at hzw2;unfold nl at hzw2;have HZW:=A6 (Aq hzw hzw2);clear hm1 ht1 hD1 hm2 ht2 d50 d55 he hO HFd hk2 hz2 ha2 hzw hzw2;have HLQ:=A6 hlq;clear hlq;go_upto_region 7 with fail
 clear g50 g56 g57 f50 f56 f57;generalize Bf (Bf (Bf _ _ _) _ _) _ _=w2 at*;go_wp2_with fail
 go_loopw [41] (fun s41 wx=>∃i:Nat,i≤q∧s41=.int .i64 i∧Hid (Bt p w2 col2 (Cc s0 (l.take i)) wx)) (fun s41 _=>q-(intOf s41).toNat)
 case atStart=>exact⟨0,by omega,rfl,A6 ⟨col2,_,HM2.out,Lb.refl _ _⟩⟩
 case round=>
  obtain⟨i,hi,rfl,HDs⟩:=hrel;obtain⟨c8,v8,hm8,ht8⟩:=HDs.out;by_cases hlt:i<q
  ·have hin:=(HD2.out.trn ht8).here.ints
   obtain⟨ad,e,hc⟩:=hin.at_ (k:=i) hlt;subst e;have hci:=hc i hlt;have d55:wr.cell? ⟨p,55,none⟩=some (.bool (Cc s0 (l.take i)).over):=hm8.ses.blk.cell 55;clear hc hin;cases hov:(Cc s0 (l.take i)).over with
   |true=>
    rw[hov]at d55;have hlast:Cc s0 l=Cc s0 (l.take i):=by
     have h1:=Uo s0 (l.take i) (l.drop i);rw[List.take_append_drop]at h1;rw[h1,J0r hov]
    rw[←hlast]at hm8;clear hov hlast HDs;exact I1
   |false=>
    rw[hov]at d55;obtain⟨hg,hv⟩:=HA.out i (by rw[HLQ.out];exact hlt) hov
    have HKey:=A6 (Q5r hm8 hg (gI l i));have HV:=A6 hv;have HT8:=A6 ht8;have HN:Hid (Cc s0 (l.take (i+1))=Na (Em (Cc s0 (l.take i)) (gI l i))):=A6 (by
     have hke:l.take (i+1)=l.take i++[gI l i]:=by
      rw[List.take_add_one];have hlk:i<l.length:=by rw[HLQ.out];exact hlt
      unfold gI;rw[List.getElem?_eq_getElem hlk]
      rfl
     rw[hke,J2k];unfold Fz;rw[if_neg (by rw[hov];decide)])
    clear hm8 ht8 hg hv hov HDs;go_wp2_with fail
    refine HKey.out.mono ?_
    rintro e w9 ⟨rfl,col9,v9,hm9,ht9⟩;obtain⟨W,hW⟩:=HV.out.row;have HSh:=A6 (Q1o hm9 HV.out.line hW HV.out.vis);have HT9:=A6 ht9;clear hm9 ht9 hW hci d55;go_wp2_with fail
    refine HSh.out.mono ?_
    rintro e w10 ⟨rfl,hd⟩;have H10:Hid (Bt p w2 col2 (Cc s0 (l.take (i+1))) w10):=A6 (by rw[HN.out];exact Bt.trans HT8.out (Bt.trans HT9.out hd))
    clear hd HSh HKey;go_wp2_with fail
    go_roundw
    case rel=>exact⟨i+1,by omega,by go_num,H10⟩
    case measure=>simp[intOf];omega
  ·obtain rfl:i=q:=by omega
   have hta:l.take i=l:=List.take_of_length_le (by rw[HLQ.out];exact Nat.le_refl _)
   rw[hta]at hm8;clear hta HDs;exact I1
def Q4 (x:Int):Prop:=0≤x∧x≤1114111
def F9 (l:List Int):Prop:=∀x∈l,Q4 x
theorem Q4.wf {x:Int}(h:Q4 x):(Lit.int .i64 x).wf=true:=J4u (by have:=h.1;omega) (by have:=h.2;omega)
theorem F9.nil:F9 []:=fun _ h=>by cases h
theorem F9.app {a b:List Int}(ha:F9 a)(hb:F9 b):F9 (a++b):=fun x hx=>(List.mem_append.1 hx).elim (ha x) (hb x)
theorem F9.take {l:List Int}(h:F9 l)(n:Nat):F9 (l.take n):=fun x hx=>h x (List.mem_of_mem_take hx)
theorem F9.drop {l:List Int}(h:F9 l)(n:Nat):F9 (l.drop n):=fun x hx=>h x (List.mem_of_mem_drop hx)
theorem F9.one {x:Int}(h:Q4 x):F9 [x]:=fun y hy=>by rw[List.mem_singleton.1 hy];exact h
theorem Q4.turn {x:Int}(h:Q4 x):Q4 (Mi x):=by
 obtain⟨h1,h2⟩:=h;unfold Mi Q4;split
 ·omega
 ·split<;>omega
theorem F9.case {l:List Int}(h:F9 l)(a k:Nat):F9 (Qb l a k):=by
 unfold Qb;refine((h.take a).app fun x hx=>?_).app (h.drop _)
 obtain⟨y,hy,rfl⟩:=List.mem_map.1 hx;exact((h.drop a).take k y hy).turn
theorem F9.fill {l:List Int}(h:F9 l)(a k:Nat){x:Int}(hx:Q4 x):F9 (Q9 l a k x):=by
 unfold Q9;exact((h.take a).app fun y hy=>by rw[(List.mem_replicate.1 hy).2];exact hx).app (h.drop _)
theorem F9.rep {x:List Int}(h:F9 x)(n:Nat):F9 (H7 n x):=by
 unfold H7;intro y hy;obtain⟨l,hl,hy⟩:=List.mem_flatten.1 hy;rw[(List.mem_replicate.1 hl).2]at hy;exact h y hy
theorem F9.put {rl:Nat→List Int}(hr:∀i,F9 (rl i)){x:List Int}(hx:F9 x)(i:Nat)(m:Bool)(j:Nat):F9 (Ki rl i m x j):=by
 have hy:F9 (if m=true then rl i++x else x):=by
  split
  ·exact(hr i).app hx
  ·exact hx
 unfold Ki upd;split
 ·exact hy
 ·split
  ·exact hy
  ·exact hr j
theorem F9.got {rl:Nat→List Int}(hr:∀i,F9 (rl i))(k:Int):F9 (Po rl k):=by
 unfold Po;split
 ·exact F9.nil
 ·exact hr _
theorem L2.cha {l:List Int}{a:Int}{rl rl':Nat→List Int}{k2 k3:Int}{f t:Nat}{whole:Bool}{m:List Int}{at_ md:Int}{e:List Fw}(h:L2 l a rl k2 k3 f t whole m at_ md rl' e)(hft:f≤t)(hl:F9 l)(hr:∀i,F9 (rl i)):
 F9 m∧(∀i,F9 (rl' i))∧(md=0∨md=1):=by
 obtain⟨_,⟨hk1,hk2⟩,hm⟩:=h;refine⟨?_,fun i=>?_,?_⟩
 ·rcases hm with⟨_,rfl,_⟩|⟨_,rfl,_⟩
  ·exact hl
  ·exact(hl.take f).app (hl.drop t)
 ·rcases Nat.lt_or_ge f t with hlt|hge
  ·obtain⟨j,b,_,_,rfl⟩:=hk2 hlt
   exact F9.put hr ((hl.drop f).take _) j b i
  ·rw[hk1 (by omega)];exact hr i
 ·rcases hm with⟨_,_,h,_⟩|⟨_,_,_,⟨_,_,h⟩|⟨_,h,_⟩⟩
  ·exact .inl h
  ·exact .inr h
  ·exact .inl h
theorem Gt.cha {l:List Int}{n a:Nat}{rl:Nat→List Int}{k1 k2 v k5:Int}{m:List Int}{at_ md:Int}{e:List Fw}(h:Gt l n a rl k1 k2 v k5 m at_ md e)(hl:F9 l)(hr:∀i,F9 (rl i))(h5:Q4 k5):
 F9 m∧(md=0∨md=1∨md=2):=by
 have hp:∀{p:Nat},Jp l n p rl k1 k2 m at_ e→F9 m:=fun hh=>by
  obtain⟨_,rfl,_⟩:=hh;exact((hl.take _).app ((F9.got hr k2).rep _)).app (hl.drop _)
 rcases h with⟨_,h,hm⟩|⟨_,h,hm⟩|⟨_,_,rfl,_,_,hm⟩|⟨_,_,rfl,_,_,hm⟩|⟨rfl,_,h⟩
 ·exact⟨hp h,.inl hm⟩
 ·exact⟨hp h,.inl hm⟩
 ·exact⟨hl.case _ _,.inl hm⟩
 ·exact⟨hl.fill _ _ h5,.inl hm⟩
 ·refine⟨hl,?_⟩
  rcases h with⟨_,_,h⟩|⟨_,_,h⟩|⟨_,_,h⟩|⟨_,_,h⟩|⟨_,_,h⟩
  ·exact .inr (.inl h)
  ·exact .inr (.inl h)
  ·exact .inr (.inl h)
  ·exact .inr (.inl h)
  ·exact .inr (.inr h)
theorem Ju.cha {l:List Int}{n a:Nat}{rl rl':Nat→List Int}{k1 k2 o v k5 fk fa zk za:Int}{m:List Int}{at_ md:Int}{ed:List Fw}(h:Ju l n a rl k1 k2 o v k5 fk fa m at_ md zk za rl' ed)(ha:a≤n-1)(hl:F9 l)(hr:∀i,F9 (rl i))(h5:Q4 k5):
 F9 m∧(∀i,F9 (rl' i))∧(md=0∨md=1∨md=2):=by
 have up:∀{md:Int},md=0∨md=1→md=0∨md=1∨md=2:=fun h=>h.elim .inl fun h=>.inr (.inl h)
 rcases h with⟨_,mk,ma,_,⟨_,_,rfl,rfl,rfl,_⟩|⟨_,f,t,h1,h2⟩⟩|⟨_,_,_,_,rfl,h⟩|⟨_,_,_,_,f,t,whole,h1,h2,_,h3⟩
 ·exact⟨hl,hr,.inl rfl⟩
 ·obtain⟨k1,k2,k3⟩:=h2.cha (h1.bd ha).2.2.1 hl hr
  exact⟨k1,k2,up k3⟩
 ·obtain⟨k1,k3⟩:=h.cha hl hr h5
  exact⟨k1,hr,k3⟩
 ·obtain⟨k1,k2,k3⟩:=h3.cha h1 hl hr
  exact⟨k1,k2,up k3⟩
structure Q9f (d:Dn):Prop where
 tx:F9 d.tx
 rl:∀i,F9 (d.rl i)
 len:d.tx.length≤200
 lo:0≤d.at_
 hi:d.at_≤d.tx.length
 md:d.md=0∨d.md=1∨d.md=2
theorem Ug {l:List Int}{rl:Nat→List Int}{a fk fa:Int}{c:Cm}{d:Dn}(h:Mh l rl a fk fa c=some d)(hl:F9 l)(hr:∀i,F9 (rl i))(h5:Q4 c.arg)(hn:l.length≤200):Q9f d:=by
 obtain⟨hv,ed,h1⟩:=J0b h;have ha:=Nq hv.1.2.1 hv.1.2.2;obtain⟨k1,k2,k3⟩:=h1.cha ha hl hr h5;obtain⟨b1,b2,b3,b4,_⟩:=Q0y h1 rfl hn ha;refine⟨k1,k2,b1,b2,?_,k3⟩
 by_cases hm:d.md=0
 ·have:=b3 hm;omega
 ·exact b4 hm
theorem Q7z {l:List Int}{rl:Nat→List Int}{a fk fa:Int}{c:Cm}{d:Dn}(h:Mh l rl a fk fa c=some d)(hn:l.length≤200):d.tx.length≤200:=by
 obtain⟨hv,ed,h1⟩:=J0b h;exact(Q0y h1 rfl hn (Nq hv.1.2.1 hv.1.2.2)).1
theorem Q3k {md:Int}{l:List Int}{a:Nat}{k:Int}{m:List Int}{b:Nat}(h:Ht md l a k=some (m,b))(hl:F9 l)(hk:Q4 k):F9 m:=by
 unfold Ht at h
 repeat' split at h
 all_goals first
  |(cases h;done)
  |(
   injection h with h;injection h with h1 h2;subst h1
   first
    |exact((hl.take _).app (F9.one hk)).app (hl.drop _)
    |exact((hl.take _).app F9.nil).app (hl.drop _)
    |exact hl)
theorem J6t {p:Pt}{k:Int}(hk:Q4 k):Q4 (Co p k).c.arg:=by
 have z:Q4 0:=⟨by decide,by decide⟩
 unfold Co
 repeat' split
 all_goals first
  |exact z
  |exact hk
  |(
   unfold G6
   repeat' split
   all_goals first
    |exact z
    |exact hk)
structure T4 (h:Hi):Prop where
 lo:1≤h.most
 hi:h.most≤50
 len:(h.lines.length:Int)≤h.most
 at0:0≤h.at_
 at1:h.at_≤h.lines.length
 lines:∀l∈h.lines,F9 l∧l.length≤200
 scratch:F9 h.scratch∧h.scratch.length≤200
 pattern:h.pattern.length≤200
theorem Q0s {ls:List (List Int)}{i:Nat}(h:i<ls.length):gL ls i∈ls:=by
 unfold gL;rw[Bw h];exact List.getElem_mem h
theorem Z1i {ls:List (List Int)}{i:Nat}(h:ls.length≤i):gL ls i=[]:=by
 unfold gL;rw[List.getElem?_eq_none h]
 rfl
theorem T4.nolong {h:Hi}(k:T4 h):¬h.long:=fun⟨i,hi,hlt⟩=>by
 have hm:=Q0s hi;unfold Hi.all at hm hi hlt;rcases List.mem_append.1 hm with hm|hm
 ·have:=(k.lines _ hm).2;omega
 ·rcases List.mem_cons.1 hm with e|hm
  ·rw[e]at hlt;have:=k.scratch.2;omega
  ·rw[F1.1 hm]at hlt;have:=k.pattern;omega
theorem T4.nobad {h:Hi}(k:T4 h):¬h.bad:=fun hb=>by
 have h1:=k.lo;have h2:=k.hi;have h3:=k.len;have h4:=k.at0;have h5:=k.at1;unfold Hi.bad at hb;omega
theorem T4.gl {h:Hi}(k:T4 h)(i:Nat):F9 (gL h.lines i)∧(gL h.lines i).length≤200:=by
 rcases Nat.lt_or_ge i h.lines.length with hlt|hge
 ·exact k.lines _ (Q0s hlt)
 ·rw[Z1i hge];exact⟨F9.nil,Au _⟩
theorem T4.toS {h:Hi}(k:T4 h){now:List Int}(hn:F9 now∧now.length≤200):F9 (toS h now)∧(toS h now).length≤200:=by
 unfold Go.Proofs.YtkaefdmhlmlhbaaGreat.toS;split
 ·exact hn
 ·exact k.scratch
theorem T4.toL {h:Hi}(k:T4 h){now:List Int}(hn:F9 now∧now.length≤200)(i:Nat):F9 (toL h now i)∧(toL h now i).length≤200:=by
 unfold Go.Proofs.YtkaefdmhlmlhbaaGreat.toL;split
 ·exact k.toS hn
 ·exact k.gl i
theorem T4.toH {h:Hi}(k:T4 h){now:List Int}(hn:F9 now∧now.length≤200){i:Nat}(hi:i≤h.lines.length):T4 (toH h now i):=
 ⟨k.lo,k.hi,k.len,Z3v i,by
  show(i:Int)≤_;have:(i:Int)≤h.lines.length:=by omega
  exact this,k.lines,k.toS hn,k.pattern⟩
theorem T4.findH {h:Hi}(k:T4 h){now p:List Int}(hn:F9 now∧now.length≤200)(hp:p.length≤200)(older:Bool){i:Nat}(hi:i<h.lines.length):T4 (findH h now p older i):=
 ⟨k.lo,k.hi,k.len,Z3v i,by
  show(i:Int)≤_;have:(i:Int)≤h.lines.length:=by omega
  exact this,k.lines,k.toS hn,by show(Jz h p).length≤200;unfold Jz;split;exact k.pattern;exact hp⟩
theorem T4.add {h:Hi}(k:T4 h){line:List Int}(hl:F9 line∧line.length≤200):T4 (Mz h line):=by
 have e:Mz h line=Q0b h line:=by unfold Mz;rw[if_pos ⟨k.nobad,k.nolong,hl.2⟩]
 rw[e];have hm:((Lp h line).length:Int)≤h.most:=by
  unfold Lp;split
  ·exact k.len
  ·unfold J4p
   have h1:=k.lo;rw[Cy,List.length_append,List.length_singleton];omega
 refine⟨k.lo,k.hi,hm,Z3v _,Lr _,fun l hl'=>?_,⟨F9.nil,Au _⟩,k.pattern⟩
 have hl':l∈Lp h line:=hl';unfold Lp at hl';split at hl'
 ·exact k.lines l hl'
 ·have:=List.mem_of_mem_drop hl'
  rcases List.mem_append.1 this with h1|h1
  ·exact k.lines l h1
  ·rw[F1.1 h1];exact hl
structure J6i (K:Nat)(c:Cm)(ks:List Int):Prop where
 arg:Q4 c.arg
 keys:∀k∈ks,Q4 k∧k≠27
 len:ks.length≤K
theorem J6i.mono {K K':Nat}{c:Cm}{ks:List Int}(h:J6i K c ks)(hk:K≤K'):J6i K' c ks:=⟨h.arg,h.keys,Aq h.len hk⟩
structure E8 (K L T:Nat)(s:PS):Prop where
 tx:F9 s.tx
 line:LOk s
 rl:∀i,F9 (s.rl i)
 past:s.past.length≤30
 pasts:∀x∈s.past,F9 x.1∧x.1.length≤200∧0≤x.2∧x.2≤x.1.length
 first:F9 s.first∧s.first.length≤200
 hist:T4 s.hi
 ask:s.ask.length≤200
 last:∀c ks,s.last=some (c,ks)→J6i L c ks
 now:∀c ks,s.now=some (c,ks)→J6i K c ks
 mode:s.mode=0∨s.mode=1∨s.mode=2∨s.mode=3
 idle:s.mode=0∨s.mode=3→s.now=none
 part:Fl s.part=true
 told:s.told.length≤T
theorem E8.mono {K K' L L' T T':Nat}{s:PS}(h:E8 K L T s)(hk:K≤K')(hl:L≤L')(ht:T≤T'):E8 K' L' T' s:=
 {
  h with
  last:=fun c ks e=>(h.last c ks e).mono hl
  now:=fun c ks e=>(h.now c ks e).mono hk
  told:=Aq h.told ht }
theorem E8.zero {K L T:Nat}{s:PS}(h:E8 K L T s)(hn:s.now=none):E8 0 L T s:={ h with now:=fun c ks e=>by rw[hn]at e;cases e }
theorem E8.full {K L T:Nat}{s:PS}(h:E8 K L T s):F9 s.tx∧s.tx.length≤200:=⟨h.tx,h.line.len⟩
theorem E8.bell {K L T:Nat}{s:PS}(h:E8 K L T s):E8 K L (T+1) (Ey s):=
 {
  h with
  line:=⟨h.line.len,h.line.lo,h.line.hi⟩
  told:=by show(s.told++[_]).length≤_;have:=h.told;simp;omega }
theorem E8.part' {K L T:Nat}{s:PS}(h:E8 K L T s){pt:Pt}(hp:Fl pt=true):E8 K L T { s with part:=pt }:=
 {
  h with
  line:=⟨h.line.len,h.line.lo,h.line.hi⟩
  part:=hp }
theorem J5i {K L T:Nat}{s:PS}(h:E8 K L T s):∀c ks,s.now.or s.last=some (c,ks)→J6i (max K L) c ks:=fun c ks e=>by
 cases hn:s.now with
 |none=>rw[hn]at e;exact(h.last c ks e).mono (Nat.le_max_right _ _)
 |some x=>rw[hn]at e;exact(h.now c ks (by rw[hn];exact e)).mono (Nat.le_max_left _ _)
theorem E8.leave {K L T:Nat}{s:PS}(h:E8 K L T s):E8 0 (max K L) T (Y1 s):=
 {
  h with
  line:=⟨h.line.len,by show 0≤max 0 (s.at_-1);omega,by show max 0 (s.at_-1)≤(s.tx.length:Int);have:=h.line.hi;have:=h.line.lo;omega⟩
  last:=J5i h
  now:=nofun
  idle:=fun _=>rfl
  mode:=.inl rfl }
theorem E8.typed1 {K L T:Nat}{s:PS}(h:E8 K L T s){key:Int}(hk:Q4 key)(h27:key≠27):E8 (K+1) L (T+1) (Dm s key):=by
 unfold Dm;rw[if_neg h27];cases he:Ht s.mode s.tx s.at_.toNat key with
 |none=>exact h.bell.mono (D1 _) (Aj _) (Aj _)
 |some r=>
  obtain⟨m,b⟩:=r;have hb:=Ue he h.line.len (by have:=h.line.hi;omega)
  have h':=h.mono (D1 K) (Aj L) (D1 T);exact {
   h' with
   tx:=Q3k he h.tx hk
   line:=⟨hb.1,Z3v b,by show(b:Int)≤(m.length:Int);omega⟩
   idle:=fun e=>by show s.now.map _=none;rw[h.idle e];rfl
   now:=fun c ks e=>by
    have e:s.now.map (fun x=>(x.1,x.2++[key]))=some (c,ks):=e
    cases hn:s.now with
    |none=>rw[hn]at e;cases e
    |some y=>
     rw[hn]at e;injection e with e;injection e with e1 e2;subst e1 e2;have ho:=h.now y.1 y.2 hn;refine⟨ho.arg,fun k hk'=>?_,by have:=ho.len;simp;omega⟩
     rcases List.mem_append.1 hk' with h1|h1
     ·exact ho.keys k h1
     ·rw[F1.1 h1];exact⟨hk,h27⟩ }
theorem Wb (s:PS):Dm s 27=Y1 s:=if_pos rfl
theorem E8.typed {K L T:Nat}{s:PS}(h:E8 K L T s){key:Int}(hk:Q4 key):E8 (K+1) (max K L) (T+1) (Dm s key):=by
 by_cases h27:key=27
 ·subst h27
  rw[Wb];exact h.leave.mono (Au _) (Aj _) (D1 _)
 ·exact(h.typed1 hk h27).mono (Aj _) (Nat.le_max_right _ _) (Aj _)
theorem E8.keys {K L T:Nat}{s:PS}(h:E8 K L T s):∀{ks:List Int},(∀k∈ks,Q4 k∧k≠27)→E8 (K+ks.length) L (T+ks.length) (keysF s ks):=by
 intro ks
 induction ks generalizing s K T with
 |nil=>exact fun _=>h
 |cons k ks ih=>
  intro hk;have hk1:=hk k List.mem_cons_self;have h1:=ih (h.typed1 hk1.1 hk1.2) (fun x hx=>hk x (List.mem_cons_of_mem _ hx))
  have e:keysF s (k::ks)=keysF (Dm s k) ks:=rfl;exact I63
theorem E8.beg {K L T:Nat}{s:PS}(h:E8 K L T s)(hn:s.now=none){l:List Int}(hl:F9 l∧l.length≤200){md:Int}(hm:md=0∨md=1∨md=2∨md=3):E8 K L T (Vi s l md):=
 {
  h with
  tx:=hl.1
  line:=⟨hl.2,by
   show 0≤cond (md==0) (max 0 ((l.length:Int)-1)) 0
   cases md==0<;>simp only[cond_true,cond_false]<;>omega,by
   show cond (md==0) (max 0 ((l.length:Int)-1)) 0≤(l.length:Int)
   cases md==0<;>simp only[cond_true,cond_false]<;>omega⟩
  first:=hl
  past:=Au _
  pasts:=fun x hx=>by cases hx
  mode:=hm
  idle:=fun _=>hn
  part:=Kb }
theorem E8.hist' {K L T:Nat}{s:PS}(h:E8 K L T s){hi:Hi}(hh:T4 hi):E8 K L T { s with hi:=hi }:=
 {
  h with
  line:=⟨h.line.len,h.line.lo,h.line.hi⟩
  hist:=hh }
theorem E8.moved {K L T:Nat}{s:PS}(h:E8 K L T s)(hn:s.now=none){hi:Hi}(hh:T4 hi){l:List Int}(hl:F9 l∧l.length≤200):E8 K L T (Nf s hi l):=
 (h.hist' hh).beg hn hl (.inl rfl)
theorem E8.accept {K L T:Nat}{s:PS}(h:E8 K L T s):E8 K L (T+1) (Ma s):=by
 have h1:E8 K L (T+1) { s with hi:=Mz s.hi s.tx,told:=s.told++[(2,s.tx)],now:=none }:=
  {
   h with
   line:=⟨h.line.len,h.line.lo,h.line.hi⟩
   hist:=h.hist.add h.full
   now:=nofun
   idle:=fun _=>rfl
   told:=by show(s.told++[_]).length≤_;have:=h.told;simp;omega }
 exact h1.beg rfl ⟨F9.nil,Au _⟩ (.inr (.inl rfl))
theorem E8.brk {K L T:Nat}{s:PS}(h:E8 K L T s):E8 K L (T+1) (Rn s):=by
 have h1:E8 K L (T+1) { s with told:=s.told++[(3,[])],now:=none,hi:=⟨s.hi.lines,s.hi.most,(s.hi.lines.length:Int),[],s.hi.pattern,s.hi.older⟩ }:=
  {
   h with
   line:=⟨h.line.len,h.line.lo,h.line.hi⟩
   hist:=⟨h.hist.lo,h.hist.hi,h.hist.len,Z3v _,Lr _,h.hist.lines,⟨F9.nil,Au _⟩,h.hist.pattern⟩
   now:=nofun
   idle:=fun _=>rfl
   told:=by show(s.told++[_]).length≤_;have:=h.told;simp;omega }
 exact h1.beg rfl ⟨F9.nil,Au _⟩ (.inr (.inl rfl))
theorem Z1h {l:List (List Int×Int)}{i:Nat}(h:i<l.length):gP l i∈l:=by
 unfold gP;rw[Bw h];exact List.getElem_mem h
theorem E8.undone {K L T:Nat}{s:PS}(h:E8 K L T s):E8 K L (T+1) (Ga s):=by
 unfold Ga;split
 ·exact h.bell
 ·rename_i h0
  have h':=h.mono (Aj K) (Aj L) (D1 T);have hg:=h.pasts _ (Z1h (show s.past.length-1<s.past.length by omega))
  exact { h' with
   tx:=hg.1
   line:=⟨hg.2.1,hg.2.2.1,hg.2.2.2⟩
   past:=by show(s.past.take _).length≤30;rw[List.length_take];have:=h.past;omega
   pasts:=fun x hx=>h.pasts x (List.mem_of_mem_take hx) }
theorem E8.save {K L T:Nat}{s:PS}(h:E8 K L T s):E8 K L T (Q7 s):=
 {
  h with
  line:=⟨h.line.len,h.line.lo,h.line.hi⟩
  past:=by show((s.past++[(s.tx,s.at_)]).drop _).length≤30;rw[Cy];simp;omega
  pasts:=fun x hx=>by
   have:=List.mem_of_mem_drop hx;rcases List.mem_append.1 this with h1|h1
   ·exact h.pasts x h1
   ·rw[F1.1 h1];exact⟨h.tx,h.line.len,h.line.lo,h.line.hi⟩ }
theorem E8.first0 {K L T:Nat}{s:PS}(h:E8 K L T s):E8 K L (T+1) (J1 s):=by
 unfold J1;cases Tj s.tx s.first with
 |true=>exact h.bell
 |false=>
  have h':=h.save.mono (Aj K) (Aj L) (D1 T);exact { h' with
   tx:=h.first.1
   line:=⟨h.first.2,Lr 0,Z3v _⟩ }
theorem E8.does {L T:Nat}{s:PS}(h:E8 0 L T s){c:Cm}{d:Dn}(hd:Q9f d)(hc:Q4 c.arg)(hn:s.now=none):E8 0 L T (Mg s c d):=by
 obtain⟨s1,hs1⟩:∃x,x=G4 s c:=⟨_,rfl⟩;have h1:E8 0 L T { s1 with mode:=1 }:=by
  rw[hs1];unfold G4;split
  ·have h2:=h.save
   exact { h2 with
    line:=⟨h2.line.len,h2.line.lo,h2.line.hi⟩
    mode:=.inr (.inl rfl)
    idle:=fun e=>by rcases e with e|e<;>cases e
    now:=fun c' ks e=>by
     injection e with e;injection e with e1 e2;subst e1 e2;exact⟨hc,(fun k hk=>by cases hk),Au _⟩ }
  ·exact { h with
    line:=⟨h.line.len,h.line.lo,h.line.hi⟩
    mode:=.inr (.inl rfl)
    idle:=fun _=>hn }
 unfold Mg Pe;rw[←hs1];split
 ·exact { h1 with
   tx:=hd.tx
   line:=⟨hd.len,hd.lo,hd.hi⟩
   rl:=hd.rl
   last:=fun c ks e=>(J5i h1 c ks e).mono (by omega)
   mode:=by rename_i e;exact .inl e
   idle:=fun _=>rfl
   now:=nofun }
 ·rename_i hne
  have hne:d.md≠0:=hne;have hm:=hd.md;exact { h1 with
   tx:=hd.tx
   line:=⟨hd.len,hd.lo,hd.hi⟩
   rl:=hd.rl
   mode:=by show d.md=0∨d.md=1∨d.md=2∨d.md=3;omega
   idle:=fun e=>by
    have e:d.md=0∨d.md=3:=e;omega }
theorem E8.doS {L T:Nat}{s:PS}(h:E8 0 L T s)(hn:s.now=none){c:Cm}(hc:Q4 c.arg):E8 0 L (T+1) (doS s c):=by
 unfold Go.Proofs.YtkaefdmhlmlhbaaGreat.doS;cases he:Mh s.tx s.rl s.at_ s.fk s.fa c with
 |none=>exact h.bell
 |some d=>exact(h.does (Ug he h.tx h.rl hc h.line.len) hc hn).mono (Aj _) (Aj _) (D1 _)
theorem E8.dot {L T:Nat}{s:PS}(h:E8 0 L T s)(hn:s.now=none){n:Int}{c:Cm}{ks:List Int}{d:Dn}(hl:s.last=some (c,ks))(he:Mh s.tx s.rl s.at_ s.fk s.fa (Cd c n)=some d):E8 0 L T (Mg s (Cd c n) d):=by
 have hc:=h.last c ks hl;have harg:Q4 (Cd c n).arg:=by unfold Cd;split<;>exact hc.arg
 exact h.does (Ug he h.tx h.rl harg h.line.len) harg hn
theorem E8.again {L T:Nat}{s:PS}(h:E8 0 L T s)(hn:s.now=none)(n:Int):E8 0 L (T+L+1) (Ez s n):=by
 unfold Ez;cases hl:s.last with
 |none=>exact h.bell.mono (by omega) (by omega) (by omega)
 |some x=>
  obtain⟨c,ks⟩:=x;have hc:=h.last c ks hl;simp only;cases he:Mh s.tx s.rl s.at_ s.fk s.fa (Cd c n)with
  |none=>exact h.bell.mono (by omega) (by omega) (by omega)
  |some d=>
   have h1:=h.dot hn hl he;simp only;split
   ·exact h1.mono (by omega) (by omega) (by omega)
   ·have h2:=h1.keys (ks:=ks) hc.keys
    have:=hc.len;rw[Wb];exact h2.leave.mono (by omega) (by omega) (by omega)
theorem E8.up {L T:Nat}{s:PS}(h:E8 0 L T s)(hn:s.now=none)(k:Int):E8 0 L (T+1) (upS s k):=by
 unfold upS;split
 ·rename_i hg
  exact(h.moved hn (h.hist.toH h.full (by have:=h.hist.at0;have:=h.hist.at1;omega)) (h.hist.toL h.full _)).mono (Aj _) (Aj _) (D1 _)
 ·exact h.bell
theorem E8.down {L T:Nat}{s:PS}(h:E8 0 L T s)(hn:s.now=none)(k:Int):E8 0 L (T+1) (Mm s k):=by
 unfold Mm;split
 ·rename_i hg
  exact(h.moved hn (h.hist.toH h.full (by have:=hg.2;have:=h.hist.at0;omega)) (h.hist.toL h.full _)).mono (Aj _) (Aj _) (D1 _)
 ·exact h.bell
theorem E8.jump {L T:Nat}{s:PS}(h:E8 0 L T s)(hn:s.now=none)(k:Int):E8 0 L (T+1) (Mj s k):=by
 unfold Mj;split
 ·rename_i hg
  exact(h.moved hn (h.hist.toH h.full (by have:=hg.2;have:=hg.1.2.2.2;unfold Q8;omega)) (h.hist.toL h.full _)).mono (Aj _) (Aj _) (D1 _)
 ·exact h.bell
theorem E8.find {L T:Nat}{s:PS}(h:E8 0 L T s)(hn:s.now=none)(pat:List Int)(older keep:Bool):E8 0 L (T+1) (Fn s pat older keep):=by
 unfold Fn;split
 ·rename_i hx
  have hs:=hx.choose_spec;exact(h.moved hn (h.hist.findH h.full hs.1.2.1 keep hs.2) (h.hist.toL h.full _)).mono (Aj _) (Aj _) (D1 _)
 ·exact h.bell
theorem E8.asks {L T:Nat}{s:PS}(h:E8 0 L T s)(hn:s.now=none)(older:Bool):E8 0 L T (J6g s older):=
 {
  h with
  line:=⟨h.line.len,h.line.lo,h.line.hi⟩
  ask:=Au _
  mode:=.inr (.inr (.inr rfl))
  idle:=fun _=>hn }
theorem E8.command {L T:Nat}{s:PS}(h:E8 0 L T s)(hn:s.now=none){c:Cm}(hc:Q4 c.arg):E8 0 L (T+L+1) (F3 s c):=by
 unfold F3
 repeat' split
 all_goals first
  |exact(h.doS hn hc).mono (by omega) (by omega) (by omega)
  |exact h.undone.mono (by omega) (by omega) (by omega)
  |exact h.first0.mono (by omega) (by omega) (by omega)
  |exact h.again hn _
  |exact(h.up hn _).mono (by omega) (by omega) (by omega)
  |exact(h.down hn _).mono (by omega) (by omega) (by omega)
  |exact(h.jump hn _).mono (by omega) (by omega) (by omega)
  |exact(h.find hn _ _ _).mono (by omega) (by omega) (by omega)
  |exact(h.asks hn _).mono (by omega) (by omega) (by omega)
theorem E8.calm {K L T:Nat}{s:PS}(h:E8 K L T s)(hn:s.now=none):E8 K L T { s with mode:=0 }:=
 {
  h with
  line:=⟨h.line.len,h.line.lo,h.line.hi⟩
  mode:=.inl rfl
  idle:=fun _=>hn }
theorem E8.asked {L T:Nat}{s:PS}(h:E8 0 L T s)(hn:s.now=none)(key:Int):E8 0 L (T+1) (Le s key):=by
 unfold Le;have hT:=h.mono (Aj 0) (Aj L) (D1 T);split
 ·exact(h.calm hn).find hn _ _ _
 split
 ·exact hT.calm hn
 split
 ·split
  ·exact hT.calm hn
  ·exact { hT with
    line:=⟨h.line.len,h.line.lo,h.line.hi⟩
    ask:=by show s.ask.dropLast.length≤200;have:=h.ask;rw[List.length_dropLast];omega }
 split
 ·exact h.bell
 ·rename_i hk
  exact { hT with
   line:=⟨h.line.len,h.line.lo,h.line.hi⟩
   ask:=by
    show(s.ask++[key]).length≤200
    have:=h.ask;have:s.ask.length≠200:=fun e=>hk (.inr e)
    simp;omega }
theorem E8.key {N T:Nat}{s:PS}(h:E8 N N T s){key:Int}(hk:Q4 key):E8 (N+1) (N+1) (T+N+1) (Em s key):=by
 unfold Em;have hmx:max N N=N:=Nat.max_self N;split
 ·exact h.brk.mono (by omega) (by omega) (by omega)
 split
 ·rename_i hm
  have hn:=h.idle (.inr hm);exact((h.zero hn).asked hn key).mono (by omega) (by omega) (by omega)
 split
 ·exact h.accept.mono (by omega) (by omega) (by omega)
 split
 ·split
  ·exact(h.mono (Aj _) (Aj _) (Aj _) |> fun h=>({ h with
    line:=⟨h.line.len,h.line.lo,h.line.hi⟩
    told:=by show(s.told++[_]).length≤T+N+1;have:=h.told;simp;omega }:E8 N N (T+N+1) { s with told:=s.told++[(4,[])],over:=true })).mono (by omega) (by omega) (by omega)
  ·exact h.bell.mono (by omega) (by omega) (by omega)
 split
 ·exact(h.typed hk).mono (by omega) (by omega) (by omega)
 ·rename_i hm3 _ _ hm0
  have hm0:s.mode=0:=Decidable.not_not.1 hm0;have hn:=h.idle (.inl hm0);have h0:=h.zero hn;have hp:=(J2h (k:=key) h.part).1;unfold Sj;split
  ·exact((h0.part' hp).command hn (J6t hk)).mono (by omega) (by omega) (by omega)
  split
  ·exact((h0.part' hp).bell).mono (by omega) (by omega) (by omega)
  ·exact(h0.part' hp).mono (by omega) (by omega) (by omega)
theorem Q7x {N T:Nat}{s:PS}{c:Cm}{d:Dn}(hn:KOk N s)(ht:s.told.length≤T)(hd:Q9f d)(hm:(Mg s c d).mode≠0):TOk N T (Mg s c d):=by
 have hmd:d.md≠0:=fun e=>by
  apply hm
  unfold Mg Pe;rw[if_pos (show(Gi (G4 s c) d).mode=0 from e)]
  exact e
 have e:Mg s c d=Gi (G4 s c) d:=by unfold Mg Pe;rw[if_neg (show ¬(Gi (G4 s c) d).mode=0 from hmd)]
 rw[e];have hk:KOk N (G4 s c)∧(G4 s c).told.length≤T:=by
  unfold G4;split
  ·exact⟨fun x hx=>by injection hx with hx;rw[←hx];exact Au _,ht⟩
  ·exact⟨hn,ht⟩
 have:=hd.md;exact⟨⟨hd.len,hd.lo,hd.hi⟩,by show d.md=1∨d.md=2;omega,hk.1,hk.2⟩
theorem E8.gok {N T:Nat}{s:PS}(h:E8 N N T s)(hN:N≤2000000)(hT:T≤400000000000):GOk s:=by
 have hk:KOk N s:=fun x hx=>(h.now x.1 x.2 hx).len
 refine⟨⟨N,fun pt=>⟨fun x hx=>(h.tx x hx).wf,⟨h.line.len,h.line.lo,h.line.hi⟩,h.past,h.first.2,?_,fun k=>?_,h.ask,fun c d hd=>?_,fun n c ks d hl hd hmd=>?_,fun c ks hl=>?_,hN⟩⟩,h.part,⟨N,by omega,hk⟩,h.mode⟩
 ·show s.told.length≤_;have:=h.told;omega
 ·exact Aq (h.hist.toL h.full k).2 (by decide)
 ·exact Aq (Q7z hd h.line.len) (by decide)
 ·have hc:=h.last c ks hl
  have harg:Q4 (Cd c n).arg:=by unfold Cd;split<;>exact hc.arg
  exact Q7x hk (by show s.told.length≤_;have:=h.told;omega) (Ug hd h.tx h.rl harg h.line.len) hmd
 ·have:=h.last c ks hl
  exact⟨fun k hk=>(this.keys k hk).2,by have:=this.len;omega⟩
theorem Xn.same {W:Nat}{s s':PS}(h:Xn W s)(h1:s'.width=s.width)(h2:s'.off=s.off)(h3:s'.row=s.row)(h4:s'.rat=s.rat):Xn W s':=
 ⟨h1.trans h.width,h.lo,h.hi,by rw[h2];exact h.off,by rw[h3,h4];exact h.row,by rw[h3];exact h.len⟩
def Cf (t:List (Int×List Int))(u:List Int)(pd:List Nat)(s:PS):PS:={ s with told:=t++s.told,vis:=u++s.vis,pend:=pd }
section
variable {t:List (Int×List Int)} {u:List Int} {pd:List Nat} {s:PS}
theorem F5:Ey (Cf t u pd s)=Cf t u pd (Ey s):=by
 unfold Ey Cf;simp
theorem Rt {k:Int}:Dm (Cf t u pd s) k=Cf t u pd (Dm s k):=by
 unfold Dm;split
 ·rfl
 ·show(match Ht s.mode s.tx s.at_.toNat k with|none=>_|some (m,b)=>_)=_
  cases Ht s.mode s.tx s.at_.toNat k with
  |none=>exact F5
  |some r=>rfl
theorem Q3h:∀{ks:List Int} {s:PS},keysF (Cf t u pd s) ks=Cf t u pd (keysF s ks):=by
 intro ks
 induction ks with
 |nil=>intro s;rfl
 |cons k ks ih=>
  intro s;have e1:keysF (Cf t u pd s) (k::ks)=keysF (Dm (Cf t u pd s) k) ks:=rfl;have e2:keysF s (k::ks)=keysF (Dm s k) ks:=rfl;rw[e1,e2,Rt,ih]
theorem J5x {c:Cm}{d:Dn}:Mg (Cf t u pd s) c d=Cf t u pd (Mg s c d):=by
 unfold Mg Pe G4;split<;>(show(if d.md=0 then _ else _)=Cf t u pd (if d.md=0 then _ else _);split<;>rfl)
theorem J5w {c:Cm}:doS (Cf t u pd s) c=Cf t u pd (doS s c):=by
 unfold doS
 show(match Mh s.tx s.rl s.at_ s.fk s.fa c with|none=>_|some d=>_)=_
 cases Mh s.tx s.rl s.at_ s.fk s.fa c with
 |none=>exact F5
 |some d=>exact J5x
theorem J9x {n:Int}:Ez (Cf t u pd s) n=Cf t u pd (Ez s n):=by
 unfold Ez
 show(match s.last with|none=>_|some (c,ks)=>_)=_
 cases s.last with
 |none=>exact F5
 |some x=>
  obtain⟨c,ks⟩:=x;simp only
  show(match Mh s.tx s.rl s.at_ s.fk s.fa (Cd c n)with|none=>_|some d=>_)=_
  cases Mh s.tx s.rl s.at_ s.fk s.fa (Cd c n)with
  |none=>exact F5
  |some d=>
   simp only[J5x]
   show(if(Mg s (Cd c n) d).mode=0 then _ else _)=Cf t u pd (if(Mg s (Cd c n) d).mode=0 then _ else _)
   split
   ·rfl
   ·rw[Q3h,Rt]
theorem J1y:Ga (Cf t u pd s)=Cf t u pd (Ga s):=by
 unfold Ga
 show(if s.past.length=0 then _ else _)=Cf t u pd (if s.past.length=0 then _ else _)
 split
 ·exact F5
 ·rfl
theorem J8o:J1 (Cf t u pd s)=Cf t u pd (J1 s):=by
 unfold J1
 show(bif Tj s.tx s.first then _ else _)=Cf t u pd (bif Tj s.tx s.first then _ else _)
 cases Tj s.tx s.first with
 |true=>exact F5
 |false=>rfl
theorem Q9n {k:Int}:upS (Cf t u pd s) k=Cf t u pd (upS s k):=by
 unfold upS;by_cases h:Hc s.hi s.tx k∧(Fk k:Int)≤s.hi.at_
 ·rw[if_pos h,if_pos (show Hc (Cf t u pd s).hi (Cf t u pd s).tx k∧(Fk k:Int)≤(Cf t u pd s).hi.at_ from h)]
  rfl
 ·rw[if_neg h,if_neg (show ¬(Hc (Cf t u pd s).hi (Cf t u pd s).tx k∧(Fk k:Int)≤(Cf t u pd s).hi.at_)from h)]
  exact F5
theorem Q4e {k:Int}:Mm (Cf t u pd s) k=Cf t u pd (Mm s k):=by
 unfold Mm;by_cases h:Hc s.hi s.tx k∧(Fk k:Int)+s.hi.at_≤(s.hi.lines.length:Int)
 ·rw[if_pos h,if_pos (show Hc (Cf t u pd s).hi (Cf t u pd s).tx k∧(Fk k:Int)+(Cf t u pd s).hi.at_≤((Cf t u pd s).hi.lines.length:Int)from h)]
  rfl
 ·rw[if_neg h,if_neg (show ¬(Hc (Cf t u pd s).hi (Cf t u pd s).tx k∧(Fk k:Int)+(Cf t u pd s).hi.at_≤((Cf t u pd s).hi.lines.length:Int))from h)]
  exact F5
theorem Q3m {k:Int}:Mj (Cf t u pd s) k=Cf t u pd (Mj s k):=by
 unfold Mj;by_cases h:Hc s.hi s.tx k∧k≤(s.hi.lines.length:Int)∧0<s.hi.lines.length
 ·rw[if_pos h,if_pos (show Hc (Cf t u pd s).hi (Cf t u pd s).tx k∧k≤((Cf t u pd s).hi.lines.length:Int)∧0<(Cf t u pd s).hi.lines.length from h)]
  rfl
 ·rw[if_neg h,if_neg (show ¬(Hc (Cf t u pd s).hi (Cf t u pd s).tx k∧k≤((Cf t u pd s).hi.lines.length:Int)∧0<(Cf t u pd s).hi.lines.length)from h)]
  exact F5
theorem Zx {pat:List Int}{a b:Bool}:Fn (Cf t u pd s) pat a b=Cf t u pd (Fn s pat a b):=by
 unfold Fn;by_cases h:∃k,Vt s.hi s.tx pat a k∧k<s.hi.lines.length
 ·have h':∃k,Vt (Cf t u pd s).hi (Cf t u pd s).tx pat a k∧k<(Cf t u pd s).hi.lines.length:=h
  rw[dif_pos h,dif_pos h']
  rfl
 ·have h':¬ ∃k,Vt (Cf t u pd s).hi (Cf t u pd s).tx pat a k∧k<(Cf t u pd s).hi.lines.length:=h
  rw[dif_neg h,dif_neg h'];exact F5
theorem J1b {c:Cm}:F3 (Cf t u pd s) c=Cf t u pd (F3 s c):=by
 unfold F3;split
 ·exact J5w
 split
 ·exact J1y
 split
 ·exact J8o
 split
 ·exact J9x
 split
 ·exact Q9n
 split
 ·exact Q4e
 split
 ·exact Q3m
 split
 ·exact Zx
 split
 ·rfl
 ·exact J5w
theorem J9v {k:Int}:Le (Cf t u pd s) k=Cf t u pd (Le s k):=by
 unfold Le;split
 ·exact Zx (s:={ s with mode:=0 })
 split
 ·rfl
 split
 ·show(if s.ask=[]then _ else _)=Cf t u pd (if s.ask=[]then _ else _)
  split<;>rfl
 show(if k<32∨s.ask.length=200 then _ else _)=Cf t u pd (if k<32∨s.ask.length=200 then _ else _)
 split
 ·exact F5
 ·rfl
theorem Q6y {k:Int}:Em (Cf t u pd s) k=Cf t u pd (Em s k):=by
 unfold Em;split
 ·unfold Rn Vi Cf;simp
 show(if s.mode=3 then _ else _)=Cf t u pd (if s.mode=3 then _ else _)
 split
 ·exact J9v
 split
 ·unfold Ma Vi Cf;simp
 split
 ·show(if s.tx=[]then _ else _)=Cf t u pd (if s.tx=[]then _ else _)
  split
  ·show({ (Cf t u pd s)with told:=(Cf t u pd s).told++[(4,[])],over:=true }:PS)=Cf t u pd { s with told:=s.told++[(4,[])],over:=true }
   unfold Cf;simp
  ·exact F5
 show(if s.mode≠0 then _ else _)=Cf t u pd (if s.mode≠0 then _ else _)
 split
 ·exact Rt
 ·unfold Sj
  show(if(Co s.part k).how=2 then _ else if(Co s.part k).how=3 then _ else _)=Cf t u pd (if(Co s.part k).how=2 then _ else if(Co s.part k).how=3 then _ else _)
  split
  ·exact J1b (s:={ s with part:=(Co s.part k).p })
  split
  ·exact F5 (s:={ s with part:=(Co s.part k).p })
  ·rfl
theorem Q1r:Na (Cf t u pd s)=Cf t u pd (Na s):=by
 unfold Na Cf;simp
theorem Q1n {k:Int}:Fz (Cf t u pd s) k=Cf t u pd (Fz s k):=by
 unfold Fz
 show(if s.over=true then _ else _)=Cf t u pd (if s.over=true then _ else _)
 split
 ·rfl
 ·rw[Q6y,Q1r]
end
theorem We {t:List (Int×List Int)}{u:List Int}{pd:List Nat}:∀{ks:List Int} {s:PS},Cc (Cf t u pd s) ks=Cf t u pd (Cc s ks):=by
 intro ks
 induction ks with
 |nil=>intro s;rfl
 |cons k ks ih=>
  intro s;have e1:Cc (Cf t u pd s) (k::ks)=Cc (Fz (Cf t u pd s) k) ks:=rfl;have e2:Cc s (k::ks)=Cc (Fz s k) ks:=rfl;rw[e1,e2,Q1n,ih]
def wnF (s:PS):Int×Int×List Int×Int×List Int×List Nat:=(s.width,s.off,s.row,s.rat,s.vis,s.pend)
theorem Ty {s:PS}{k:Int}:wnF (Dm s k)=wnF s:=by
 unfold Dm;split
 ·rfl
 ·cases Ht s.mode s.tx s.at_.toNat k<;>rfl
theorem Q6x:∀{ks:List Int} {s:PS},wnF (keysF s ks)=wnF s:=by
 intro ks
 induction ks with
 |nil=>intro s;rfl
 |cons k ks ih=>
  intro s;have e:keysF s (k::ks)=keysF (Dm s k) ks:=rfl;rw[e,ih,Ty]
theorem J1s {s:PS}{c:Cm}{d:Dn}:wnF (Mg s c d)=wnF s:=by
 unfold Mg Pe G4
 repeat' split
 all_goals rfl
theorem Q0u {s:PS}{c:Cm}:wnF (doS s c)=wnF s:=by
 unfold doS;cases Mh s.tx s.rl s.at_ s.fk s.fa c with
 |none=>rfl
 |some d=>exact J1s
theorem J5n {s:PS}{pat:List Int}{a b:Bool}:wnF (Fn s pat a b)=wnF s:=by
 unfold Fn;split<;>rfl
theorem J4b {s:PS}{c:Cm}:wnF (F3 s c)=wnF s:=by
 unfold F3;split
 ·exact Q0u
 split
 ·unfold Ga;split<;>rfl
 split
 ·unfold J1;cases Tj s.tx s.first<;>rfl
 split
 ·unfold Ez
  cases s.last with
  |none=>rfl
  |some x=>
   obtain⟨c',ks⟩:=x;simp only;cases Mh s.tx s.rl s.at_ s.fk s.fa (Cd c' c.count)with
   |none=>rfl
   |some d=>
    simp only;split
    ·exact J1s
    ·rw[Ty,Q6x,J1s]
 split
 ·unfold upS;split<;>rfl
 split
 ·unfold Mm;split<;>rfl
 split
 ·unfold Mj;split<;>rfl
 split
 ·exact J5n
 split
 ·rfl
 ·exact Q0u
theorem Q0p {s:PS}{k:Int}:wnF (Em s k)=wnF s:=by
 unfold Em;split
 ·rfl
 split
 ·unfold Le
  split
  ·exact J5n (s:={ s with mode:=0 })
  repeat' split
  all_goals rfl
 split
 ·rfl
 split
 ·split<;>rfl
 split
 ·exact Ty
 ·unfold Sj
  split
  ·exact J4b (s:={ s with part:=(Co s.part k).p })
  split<;>rfl
