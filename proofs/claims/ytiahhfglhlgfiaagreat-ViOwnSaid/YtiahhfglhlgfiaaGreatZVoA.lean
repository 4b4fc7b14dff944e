/-
  Part ZVoA.
-/
import Derived.Test.YtiahhfglhlgfiaaGreatZVjR
set_option maxRecDepth 100000
set_option maxHeartbeats 16000000
set_option linter.unusedVariables false
set_option linter.unusedSimpArgs false
namespace Go.Proofs.YtiahhfglhlgfiaaGreat
open Go.RowKit
open _root_.List renaming getElem?_eq_getElem→By
open _root_.Nat renaming le_refl→Ai
open Value renaming slice→Aj
section
variable {col:Nat→Nat}{w w':World}{A:Option Addr}{xs:List Value}{F:Nat→Prop}{s:PS}
structure Dv (F:Nat→Prop)(w w':World):Prop where
 alt:Fp F w w'
 rows:∀b A n c l,Av w b A n c l→∃l':List Int,l'.length=n∧Av w' b A n c l'
 blk:∀g t cs,An w g t cs→t≠3→An w' g t cs
section
variable {F F':Nat→Prop} {w w' w'':World}
theorem Dv.refl (F:Nat→Prop)(w:World):Dv F w w:=⟨Fp.refl F w,fun b A n c l h=>⟨l,(Av.ints h).len,h⟩,fun _ _ _ h _=>h⟩
theorem Dv.ext (he:Al w w')(F:Nat→Prop):Dv F w w':=⟨he.alt F,fun b A n c l h=>⟨l,(Av.ints h).len,Ay.ext h he⟩,fun _ _ _ h _=>h.ext he⟩
theorem Dv.mono (h:Dv F w w')(hm:∀k,k<w.heap.size→F k→F' k):Dv F' w w':=⟨h.alt.mono hm,h.rows,h.blk⟩
theorem Dv.trans (h:Dv F w w')(k:Dv F' w' w'')(hm:∀g,g<w.heap.size→F' g→F g):Dv F w w'':=
 ⟨h.alt.trans k.alt hm,fun b A n c l ho=>by
  obtain⟨l1,_,h2⟩:=h.rows b A n c l ho;exact k.rows b A n c l1 h2,fun g t cs hb ht=>k.blk g t cs (h.blk g t cs hb ht) ht⟩
end
theorem mQ {base e z n c g t:Nat}{cs:Array Value}(h:Ay w base e z A n c xs)(hb:An w g t cs)(hne:t≠e):(Aj A n c).ownBlock≠some g:=by
 intro hk;rcases h.2 with⟨hv,_⟩|⟨g',cap,cur,hv,_,hg,_⟩
 ·rw[hv]at hk;cases hk
 ·rw[hv]at hk
  have hk:some g'=some g:=hk;injection hk with hk;subst hk;exact hne (hb.inj hg).1
theorem Dv.own {b e z n c:Nat}(hs:Dv F w w')(h:Ay w b e z A n c xs)(he:e≠3):Ay w' b e z A n c xs:=by
 obtain⟨h1,h2⟩:=h;refine⟨h1,?_⟩
 rcases h2 with h2|⟨g,cap,cur,hv,hb,hg,r⟩
 ·exact .inl h2
 ·exact .inr ⟨g,cap,cur,hv,hb,hs.blk g e cur hg he,r⟩
theorem cF {b n c:Nat}{l:List Int}{x:Int}(h:Av w b A n c l)(hg:w.grownBy w' (Aj A n c).ownBlock)
 (hb:∀g,(Aj A n c).ownBlock=some g→∃cs,An w' g 3 cs∧cs.size=c∧∀j,j<c→cs[j]? = some (.int .i64 x)):Dv (fun k=>(Aj A n c).ownBlock=some k) w w':=by
 refine⟨Fp.of_own h hg (by decide),fun b2 A2 n2 c2 l2 ho=>?_,fun g t cs hbk ht=>?_⟩
 ·have hlen:=(Av.ints ho).len
  rcases ho.2 with⟨hv,h0⟩|⟨g2,cap,cur,hv,hb2,hg2,hn,hcap,hcur,ht⟩
  ·exact⟨l2,hlen,Ay.kept ho hg (.inl (by rw[hv];rfl))⟩
  ·by_cases he:(Aj A n c).ownBlock=some g2
   ·obtain⟨cs,h1,h2,h3⟩:=hb g2 he
    have hcc:c=cap:=by
     rcases h.2 with⟨hv',_⟩|⟨g3,cap3,cur3,hv3,_,hg3,_,_,hcur3,_⟩
     ·rw[hv']at he;cases he
     ·injection hv3 with e1 e2 e3
      rw[e1]at he;have he:some g3=some g2:=he;injection he with he;subst he;rw[hg2]at hg3;injection hg3 with hg3;injection hg3 with hg3;rw[hg3]at hcur;omega
    subst hcc;refine⟨List.replicate n2 x,List.length_replicate,⟨by simp,.inr ⟨g2,c,cs,hv,hb2,h1,hn,hcap,by omega,?_⟩⟩⟩
    apply List.ext_getElem?
    intro j;rw[List.getElem?_take,List.getElem?_map,List.getElem?_replicate];by_cases hj:j<n2
    ·rw[if_pos (by omega),if_pos hj,Array.getElem?_toList,h3 j (by omega)]
     rfl
    ·rw[if_neg (by omega),if_neg hj]
     rfl
   ·refine⟨l2,hlen,Ay.kept ho hg (.inr fun e=>he ?_)⟩
    rw[←e,hv]
    rfl
 ·exact hbk.grown hg fun e=>mQ h hbk ht e.symm
theorem Vu {α:Type}(Q:Nat→α→Prop):∀n:Nat,(∀i,i<n→∃s,Q i s)→∃l:List α,l.length=n∧∀i s,l[i]? = some s→Q i s
 |0,_=>⟨[],rfl,fun i s h=>by simp at h⟩
 |n+1,h=>by
  obtain⟨l,hl,hq⟩:=Vu Q n (fun i hi=>h i (by omega))
  obtain⟨s,hs⟩:=h n (by omega)
  refine⟨l++[s],by simp[hl],fun i u hu=>?_⟩
  rcases Nat.lt_or_ge i l.length with h1|h1
  ·rw[List.getElem?_append_left h1]at hu
   exact hq i u hu
  ·rw[List.getElem?_append_right h1]at hu
   have h2:i-l.length=0:=by
    rcases Nat.eq_zero_or_pos (i-l.length)with h2|h2
    ·exact h2
    ·rw[List.getElem?_eq_none (by simp;omega)]at hu;cases hu
   rw[h2]at hu;injection hu with hu;subst hu;rw[show i=n by omega];exact hs
theorem Yt {T:List (Int×List Int)}(hD:Ht (fun k=>col k=5) w fun w=>Yn w xs T){i:Nat}(hi:i<T.length){y:Value}(hy:xs[i*2+1]? = some y):∀g,y.ownBlock=some g→col g=5:=by
 intro g hg;refine Decidable.byContradiction fun hne=>?_
 obtain⟨y',_,hy',hR⟩:=hD.here i hi;rw[hy]at hy';injection hy' with hy';subst hy';obtain⟨A,n,c,rfl,hO,_⟩:=hR;rcases hO.2 with⟨hv,_⟩|⟨g',cap,cur,hv,_,hgc,_,_,hcur,_⟩
 ·rw[hv]at hg;cases hg
 ·injection hv with e1 e2 e3
  subst e1 e3;have hg:some g'=some g:=hg;injection hg with hg;subst hg;obtain⟨us,hus⟩:∃us:Array Value,us.size≠c:=by
   by_cases h0:c=0
   ·exact⟨#[undef],by rw[h0];decide⟩
   ·exact⟨#[],fun e=>h0 e.symm⟩
  have hb:An w g' 3 cur:=hgc;obtain⟨y2,_,hy2,hR2⟩:=hD _ _ (Fp.row hb (by decide) us) (fun k _ hF e=>hne (e▸hF)) i hi
  rw[hy]at hy2;injection hy2 with hy2;subst hy2;obtain⟨A2,n2,c2,he,hO2,_⟩:=hR2;rcases hO2.2 with⟨hv2,_⟩|⟨g3,cap3,cur3,hv3,_,hg3,_,_,hcur3,_⟩
  ·rw[←he]at hv2;cases hv2
  ·rw[←he]at hv3
   injection hv3 with f1 f2 f3;injection f1 with f1;injection f1 with f1;subst f1 f3;have hb3:=hb.setRow us;have:=(An.inj hb3 hg3).2;subst this;exact hus (by omega)
theorem Db.spoilt {p:Nat}{v:SV}(h:Db w col p v s)(hs:Dv F w w')(hF:∀k,k<w.heap.size→F k→col k=0∨col k=5∨col k=6):
 ∃T V,Db w' col p v { s with told:=T,vis:=V }:=by
 have hm:∀c,c≠0→c≠5→c≠6→∀k,k<w.heap.size→F k→col k≠c:=fun c h0 h5 h6 k h1 h2 e=>by
  have:=hF k h1 h2;omega
 have hp:¬F p:=fun hm'=>by have:=hF p h.ses.blk.lt hm';have:=h.ses.own;omega
 obtain⟨A,n,c,xs,hv,hO,hl,hg,hD⟩:=h.told;obtain⟨A2,n2,c2,hv2,hO2,hg2⟩:=h.vis;obtain⟨V,_,hOV⟩:=hs.rows _ _ _ _ _ hO2;obtain⟨T,hTl,hT⟩:=Vu (fun i (t:Int×List Int)=>∃y,xs[i*2]? = some (.int .i64 t.1)∧xs[i*2+1]? = some y∧Bg w' 0 y t.2∧∀g,y.ownBlock=some g→col g=5) n fun i hi=>by
  obtain⟨y,h1,h2,A3,n3,c3,rfl,h3,h4,h5⟩:=hD.here i (by omega)
  obtain⟨l',_,h6⟩:=hs.rows _ _ _ _ _ h3;exact⟨((gV s.told i).1,l'),_,h1,h2,⟨A3,n3,c3,rfl,h6,h4,h5⟩,Yt hD (by omega) h2⟩
 refine⟨T,V,⟨⟨hs.alt.blk h.ses.blk hp,h.ses.own,(h.ses.dat.turn hs.alt (hm 1 (by decide) (by decide) (by decide)) fun _ _=>rfl).imp fun _ h=>⟨h.1,h.2,h.3,h.4,h.5,h.6,h.7,h.8⟩,h.ses.now.turn hs.alt (fun k h1 h2=>⟨hm 2 (by decide) (by decide) (by decide) k h1 h2,hm 3 (by decide) (by decide) (by decide) k h1 h2⟩) fun _ _=>rfl,fun k hk=>Nat.lt_of_lt_of_le (h.ses.dom k hk) hs.alt.size⟩,?_,?_⟩⟩
 ·refine⟨A,n,c,xs,hv,Ay.same hO fun k e=>hs.alt.block k (Ay.blk hO k e).2 fun hf=>hm 4 (by decide) (by decide) (by decide) k (Ay.blk hO k e).2 hf (hg k (by rw[hv];exact e)),hTl,hg,fun M w'' ha hM i hi=>?_⟩
  have hi:i<T.length:=hi;obtain⟨y,h1,h2,h3,h4⟩:=hT i T[i] (By hi);have e:gV T i=T[i]:=by unfold gV;rw[By hi];rfl
  rw[show gV ({ s with told:=T,vis:=V }:PS).told i=T[i]from e]
  exact⟨y,h1,h2,Ts (c:=5) (col:=col) h3 ha (fun k hk hMk e=>hM k hk e hMk) h4⟩
 ·exact⟨A2,n2,c2,hv2,hOV,hg2⟩
noncomputable def Ru (s:PS)(b:ByteArray):PS:=if s.over=true∨4096<b.size then s else Qr s b
def Nn (s:PS)(b:ByteArray):Int:=if s.over=true then 6 else if 4096<b.size then 2 else 0
noncomputable def Vc (s:PS)(b:ByteArray):List (Int×List Int):=if s.over=true∨4096<b.size then []else(Qr s b).told
noncomputable def Vb (s:PS)(b:ByteArray):List Int:=if s.over=true∨4096<b.size then []else(Qr s b).vis
theorem jB (s:PS)(T:List (Int×List Int))(V:List Int)(b:ByteArray):Nn { s with told:=T,vis:=V } b=Nn s b∧Vc { s with told:=T,vis:=V } b=Vc s b∧Vb { s with told:=T,vis:=V } b=Vb s b∧
 ∃T' V',Ru { s with told:=T,vis:=V } b={ Ru s b with told:=T',vis:=V' }:=by
 refine⟨rfl,?_,?_,?_⟩
 ·unfold Vc
  rfl
 ·unfold Vb
  rfl
 ·unfold Ru
  split
  ·exact⟨T,V,rfl⟩
  ·exact⟨(Qr s b).told,(Qr s b).vis,rfl⟩
theorem Mf.told {W N:Nat}(h:Mf W N s)(T:List (Int×List Int))(V:List Int):Mf W N { s with told:=T,vis:=V }:=by
 obtain⟨T0,hT⟩:=h.inv;exact⟨⟨T.length,⟨hT.tx,⟨hT.line.len,hT.line.lo,hT.line.hi⟩,hT.rl,hT.past,hT.pasts,hT.first,hT.hist,hT.ask,hT.last,hT.now,hT.mode,hT.idle,hT.part,Ai _⟩⟩,h.win.same rfl rfl rfl rfl,h.pend⟩
def dZ (w:World)(col:Nat→Nat)(E:Option Addr)(n k:Nat)(S2:Option Addr)(n2 k2:Nat):Prop:=
 (∃xs:List Value,Ay w 0 31 2 E n k xs∧(∀g,(Aj E n k).ownBlock=some g→col g=4)∧∀i,i<n→∃(kd:Int) (A:Option Addr) (m c:Nat) (l:List Int),xs[i*2]? = some (.int .i64 kd)∧xs[i*2+1]? = some (.slice A m c)∧Av w 0 A m c l∧∀g,(Aj A m c).ownBlock=some g→col g=5)∧
 ∃l,Av w 0 S2 n2 k2 l∧∀g,(Aj S2 n2 k2).ownBlock=some g→col g=6
theorem dZ.alt {M:Nat→Prop}{E S2:Option Addr}{n k n2 k2:Nat}(h:dZ w col E n k S2 n2 k2)(ha:Fp M w w')(hM:∀g,g<w.heap.size→M g→col g=0):dZ w' col E n k S2 n2 k2:=by
 obtain⟨⟨xs,h1,h2,h3⟩,l,h4,h5⟩:=h;have hs:∀{b e z n c:Nat} {A:Option Addr} {xs:List Value} {q:Nat},q≠0→Ay w b e z A n c xs→(∀g,(Aj A n c).ownBlock=some g→col g=q)→Ay w' b e z A n c xs:=fun hq ho hc=>
  Ay.same ho fun g e=>ha.block g (Ay.blk ho g e).2 fun hm=>hq ((hc g e).symm.trans (hM g (Ay.blk ho g e).2 hm))
 refine⟨⟨xs,hs (by decide) h1 h2,h2,fun i hi=>?_⟩,l,hs (by decide) h4 h5,h5⟩
 obtain⟨kd,A,m,c,l',q1,q2,q3,q4⟩:=h3 i hi;exact⟨kd,A,m,c,l',q1,q2,hs (by decide) q3 q4,q4⟩
def Sx (w:World)(col:Nat→Nat)(p W N:Nat)(s:PS)(b:ByteArray)(u:Value)(w':World):Prop:=∃(col':Nat→Nat) (v':SV) (E:Option Addr) (n k:Nat) (S2:Option Addr) (n2 k2:Nat),
 u=.tuple #[.slice E n k,.slice S2 n2 k2,.int .i64 (Nn s b)]∧Db w' col' p v' (Ru s b)∧Kp w col w' col'∧Mf W (N+4097) (Ru s b)∧(∀M w'',Fp M w' w''→(∀g,g<w'.heap.size→M g→col' g=0)→fG w'' E n k (Vc s b)∧Bi w'' S2 n2 k2 (Vb s b))∧dZ w' col' E n k S2 n2 k2∧n≤8000000000
theorem We {p W N:Nat}{v:SV}{b:ByteArray}(hm:Db w col p v s)(he:Al w w')(hs:Mf W N s)(ho:s.over=true∨4096<b.size):Sx w col p W N s b (.tuple #[.slice none 0 0,.slice none 0 0,.int .i64 (Nn s b)]) w':=by
 have e1:Ru s b=s:=if_pos ho;have e2:Vc s b=[]:=if_pos ho;have e3:Vb s b=[]:=if_pos ho;have hnil:∀w'',fG w'' none 0 0 []:=fun w''=>by
  have hev:yD w'' 0 (.slice none 0 0) []:=⟨none,0,0,[],rfl,Ay.nil _ _ _ _,rfl,fun i hi=>absurd hi (Nat.not_lt_zero i)⟩
  obtain⟨E',n',k',e4,h2⟩:=hev.v;injection e4 with x1 x2 x3;subst x1 x2 x3;exact h2
 unfold Sx;rw[e1,e2,e3];obtain⟨T,hT⟩:=hs.inv;exact⟨col,v,none,0,0,none,0,0,rfl,hm.ext he,⟨he.alt _,fun _ _ h=>h,fun _ _ h=>h⟩,⟨⟨T,hT.mono (by omega) (by omega) (Ai _)⟩,hs.win,hs.pend⟩,fun M w'' _ _=>⟨hnil w'',Bi.none_ w''⟩,⟨⟨[],Ay.nil _ _ _ _,nofun,fun i hi=>absurd hi (Nat.not_lt_zero i)⟩,[],Av.nil _ _,nofun⟩,by omega⟩
theorem Qf {p N W:Nat}{v:SV}{b:ByteArray}(hm:Db w col p v s)(hs:Mf W N s)(hN:N≤1800000):
 Calls Tryz.prog 5 #[.pointer (some ⟨p,0,none⟩),.string b] w fun e w'=>∃u,e=.returned u∧Sx w col p W N s b u w':=by
 by_cases ho:s.over=true
 ·refine(bQ (b:=b) hm ho).mono ?_
  rintro e w' ⟨rfl,rfl⟩;have h:=We (b:=b) hm (Al.refl w') hs (.inl ho);rw[show Nn s b=6 from if_pos ho]at h
  exact⟨_,rfl,h⟩
 by_cases hb:4096<b.size
 ·refine(gH (b:=b) hm (by simpa using ho) hs.pend hs.pend.lt hb).mono ?_
  rintro e w' ⟨rfl,he⟩;have h:=We (b:=b) hm he hs (.inr hb);rw[show Nn s b=2 from(if_neg ho).trans (if_pos hb)]at h
  exact⟨_,rfl,h⟩
 have hno:¬(s.over=true∨4096<b.size):=fun h=>h.elim ho hb
 have e1:Ru s b=Qr s b:=if_neg hno;have e2:Vc s b=(Qr s b).told:=if_neg hno;have e3:Vb s b=(Qr s b).vis:=if_neg hno;have e0:Nn s b=0:=(if_neg ho).trans (if_neg hb);obtain⟨q1,q2,_,q4⟩:=hs.feed (b:=b) (by omega) (by omega)
 refine(lW (b:=b) hm (by simpa using ho) hs.pend hs.pend.lt (by omega) q4).mono ?_
 rintro e w' ⟨col',v',rfl,hm',ht',_⟩;have hm':Db w' col' p v' (Qr s b):=hm';obtain⟨E,n,k,xs,hvt,hO,hl,hg,hD⟩:=hm'.told;obtain⟨S2,n2,k2,hvv,hO2,hg2⟩:=hm'.vis;unfold Sx;rw[e0,e1,e2,e3];obtain⟨T,hT⟩:=q1.inv;have hbb:=Nat.le_trans q2 (Nat.mul_le_mul_right 1905000 (show b.size+1≤4097 by omega))
 refine⟨_,rfl,col',v',E,n,k,S2,n2,k2,by rw[hvt,hvv],hm',ht',⟨⟨T,hT.mono (by omega) (by omega) (Ai _)⟩,q1.win,q1.pend⟩,fun M w'' ha hM=>?_,⟨⟨xs,hO,fun g e=>hg g (by rw[hvt];exact e),fun i hi=>?_⟩,_,hO2,fun g e=>hg2 g (by rw[hvv];exact e)⟩,by rw[←hl];omega⟩
 ·have h:=hm'.alt ha hM
  refine⟨h.evs hvt,?_⟩
  obtain⟨S3,n3,k3,hvv',hO3,_⟩:=h.vis;rw[hvv]at hvv';injection hvv' with x1 x2 x3;subst x1 x2 x3;exact hO3.ints
 obtain⟨y,h1,h3,A3,n3,c3,rfl,h4,_⟩:=hD.here i (by omega)
 exact⟨_,A3,n3,c3,_,h1,h3,h4,Yt hD (by omega) h3⟩
end
