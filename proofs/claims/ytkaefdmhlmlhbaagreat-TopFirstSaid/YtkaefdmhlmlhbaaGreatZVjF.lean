/-
  Part ZVjF.
-/
import Derived.Test.YtkaefdmhlmlhbaaGreatZVjD
set_option maxRecDepth 100000
set_option maxHeartbeats 16000000
set_option linter.unusedVariables false
set_option linter.unusedSimpArgs false
namespace Go.Proofs.YtkaefdmhlmlhbaaGreat
open Go.RowKit
open _root_.Go.Proofs.Tryz
open _root_.And renaming intro→Au
open _root_.List renaming getElem?_append_left→Bs,getElem?_append_right→Bx,getElem?_eq_getElem→Bm,length_append→Be,replicate→Aw
open _root_.Nat renaming le_refl→Aj,le_trans→Ar,lt_of_lt_of_le→Bo,mul_le_mul_right→J7k,zero_le→B8
open World renaming size_alloc→Ci
open _root_.Int renaming le_refl→Nf
open Value renaming int→Av,slice→Ak
section
variable {evs:List (Int×List Int)}{w w':World}{A A2:Option Addr}{l vis ks:List Int}{s:PS}{col:Nat→Nat}{k most:Int}{n c b m c2 W:Nat}{rl:Nat→List Int}{xs sf:List Value}
theorem Z8 {cs:Array Value}(h:cs.size=2):(prog.info? 41).map (·.size)=some cs.size:=by rw[h];kernel_rfl
theorem oS {g:Nat}{x:Int}(hb:Aq w g 3 #[.int .i64 x]):Bj w (some ⟨g,0,none⟩) 1 1 [x]:=by
 refine⟨rfl,Aj _,by unfold maxLen;omega,fun _=>⟨_,rfl,fun j u hj=>?_⟩⟩
 have e1:(⟨g,0,none⟩:Addr).add (j*1)=⟨g,j,none⟩:=by simp[Addr.add_lit]
 have e2:(⟨g,0,none⟩:Addr).add j=⟨g,j,none⟩:=by simp[Addr.add_lit]
 first
  |rw[e1,hb.cell j]
  |rw[e2,hb.cell j]
 simpa using hj
theorem eE {n:Int}(h:n<2∨120<n):
 Calls prog 52 #[.int .i64 n] w fun e w'=>e=.returned (.tuple #[.agg #[(),(0:Int)],(1:Int)])∧An w w':=by
 have hx:=A6 (An.alloc w (.cells #[(),(0:Int)] 41));have hb:=A6 (Aq.new w 41 #[.slice none 0 0,.int .i64 0]);have h3:(decide (n<2)=true)∨(decide (n<2)=false∧decide (n>120)=true):=by
  by_cases h1:n<2
  ·exact .inl (by simpa using h1)
  ·exact .inr ⟨by simpa using h1,by simp;omega⟩
 clear h;rcases h3 with b1|⟨b1,b2⟩
 all_goals
  go_enter func52,ntmps52
  go_upto_region 2 with fail
  change Code.wp _ _ _ _ (w.alloc (.cells #[(),(0:Int)] 41));generalize w.alloc (.cells #[(),(0:Int)] 41)=wa at*;have e0:wa.cell? ⟨w,0,none⟩=some (.slice none 0 0):=hb.out.cell 0;have e1:wa.cell? ⟨w,1,none⟩=some (.int .i64 0):=hb.out.cell 1;have f0:=hb.out.frozen 0;have f1:=hb.out.frozen 1;go_wp2_with fail
  refine bodyPost_ret (v:=.tuple #[.agg #[(),(0:Int)],(1:Int)]) ?_ rfl ⟨rfl,Ed hx.out (Aj _) _ _⟩
  exact Hj rfl _ _ w.heap.size 41 _ _ _ _ rfl rfl (Ee hb.out (.slice none 0 0) (.int .i64 0)) underlying41 rfl (Z8 rfl)
theorem gG {n:Nat}(h1:2≤n)(h2:n≤120):
 Calls prog 52 #[.int .i64 n] w fun e w'=>∃B d,e=.returned (.tuple #[.agg #[.slice B n d,(0:Int)],(0:Int)])∧Ba w' w.heap.size B n d (Aw n 32)∧An w w':=by
 have hx:=An.alloc w (.cells #[(),(0:Int)] 41);have hb:=Aq.new w 41 #[.slice none 0 0,.int .i64 0];have b1:decide ((n:Int)<2)=false:=by simp;omega
 have b2:decide ((n:Int)>120)=false:=by simp;omega
 go_enter func52,ntmps52
 go_upto_region 3 with fail
 change Code.wp _ _ _ _ (w.alloc (.cells #[(),(0:Int)] 41));obtain⟨wa,YY⟩:∃x,x=w.alloc (.cells #[(),(0:Int)] 41):=⟨_,rfl⟩;have dl:wa.heap.size=w.heap.size+1:=by rw[YY];exact Ci _ _
 rw[←YY]at hx hb ⊢;clear YY;have bt:=hx.to_alloc (.cells #[(32:Int)] 3);have ak:=hb.ext (An.alloc wa (.cells #[(32:Int)] 3));have iu:(wa.alloc (.cells #[(32:Int)] 3)).heap.size=w.heap.size+2:=by rw[Ci,dl]
 have rg:Bj (wa.alloc (.cells #[(32:Int)] 3)) (some ⟨wa,0,none⟩) 1 1 [32]:=oS (Aq.new wa 3 #[.int .i64 32]);have HR:=A6 (Z9 (n:=n) rg (by omega))
 have HX:=A6 (Au bt (Au ak iu));clear hx hb bt ak rg iu dl;go_wp2_with fail
 refine HR.out.mono ?_
 rintro e w2 ⟨⟨g,rfl,hO⟩,he⟩;have bg:=HX.out.1.trans he;have ap:=HX.out.2.1.ext he;have HZ3:=A6 (HX.out.2.2);clear HR HX;have e0:w2.cell? ⟨w,0,none⟩=some (.slice none 0 0):=ap.cell 0;have e1:w2.cell? ⟨w,1,none⟩=some (.int .i64 0):=ap.cell 1;have f0:=ap.frozen 0;have f1:=ap.frozen 1;have HH:=A6 (Au bg (Au ap hO));clear bg ap hO;go_wp2_with fail
 have cv:Ba _ w.heap.size (some ⟨g,0,none⟩) n n (Aw n 32):=Bd.lower (Jw HH.out.2.2 HH.out.2.1 (by decide) (.slice (some ⟨g,0,none⟩) n n) (.int .i64 0)) (by have:=HZ3.out;omega)
 refine bodyPost_ret (v:=.tuple #[.agg #[.slice (some ⟨g,0,none⟩) n n,(0:Int)],(0:Int)]) ?_ rfl ⟨_,_,rfl,cv,Ed HH.out.1 (Aj _) _ _⟩
 exact Hj rfl _ _ w.heap.size 41 _ _ _ _ rfl rfl (Ee HH.out.2.1 (.slice (some ⟨g,0,none⟩) n n) (.int .i64 0)) underlying41 rfl (Z8 rfl)
theorem tM:Pb []=.nil:=by
 unfold Pb;rw[if_pos (show([]:List Int).length≤4096 from B8 _)]
 rfl
theorem cG (w:World):By w none (Pb []):=by
 rw[tM]
 rfl
def Kx (most:Int)(W:Nat):PS:=⟨[],0,1,fun _=>[],0,0,Pt.zero,⟨[],most,0,[],[],false⟩,[],[],none,none,[],false,[],0,W,Aw W 32,0,false,[],[]⟩
def bV (R:Value):SV:=⟨none,none,fun _=>nl,nl,nl,nl,nl,none,none,nl,R,nl,nl⟩
theorem Dm.made {w w1:World}{B:Option Addr}{W d b:Nat}(he:An w w1)(hb:w.heap.size≤b)(ho:Ba w1 b B W d (Aw W 32))(hW:W≤120):
 ∃col,Dm (w1.alloc (.cells (Nn (bV (.slice B W d)) (Kx most W)) 100)) col w1.heap.size (bV (.slice B W d)) (Kx most W)∧∀k,col k≠0→w.heap.size≤k:=by
 have ae:∀k,k<w1.heap.size→k<(w1.alloc (.cells (Nn (bV (.slice B W d)) (Kx most W)) 100)).heap.size:=fun k hk=>by rw[Ci];omega
 have dl:w1.heap.size<(w1.alloc (.cells (Nn (bV (.slice B W d)) (Kx most W)) 100)).heap.size:=by rw[Ci];omega
 have JN:=he.hsize;refine⟨fun k=>if k=w1.heap.size then 7 else if w.heap.size≤k∧k<w1.heap.size then 1 else 0,⟨⟨Aq.new _ _ _,if_pos rfl,?_,trivial,fun k hk=>?_⟩,⟨none,0,0,[],rfl,Bd.nil _ _ _ _,rfl,nofun,fun M w' ha hk i hi=>absurd hi (Nat.not_lt_zero i)⟩,⟨none,0,0,rfl,Ba.nil _ _,nofun⟩⟩,fun k hk=>?_⟩
 ·have yj:Bl (w1.alloc (.cells (Nn (bV (.slice B W d)) (Kx most W)) 100)) 0 (.slice B W d) (Aw W 32):=Bl.ext (Bl.lower ⟨B,W,d,rfl,ho,Bd.nocap' ho,by omega⟩ (B8 b)) (An.alloc _ _)
  have ac:=fun g (hg:(Value.slice B W d).ownBlock=some g)=>Bd.blk ho g hg
  intro M w' ha hk;refine⟨cG w',cG w',⟨rfl,fun i hi=>⟨nl,Qk _ i hi,Bl.nil w' 0⟩⟩,⟨none,0,0,none,0,0,none,0,0,rfl,Hn.nil _ _,Bl.nil w' 0,Bl.nil w' 0⟩,cX w',trivial,Bl.nil w' 0,?_⟩
  obtain⟨A,n,c,e,h1,h2,h3⟩:=yj;injection e with e1 e2 e3;subst e1 e2 e3;refine⟨B,W,d,rfl,Bd.same h1 fun k di=>ha.block k (Bd.blk h1 k di).2 (hk k (Bd.blk h1 k di).2 ?_),h2,h3⟩
  have:=ac k di
  show(if k=w1.heap.size then 7 else if w.heap.size≤k∧k<w1.heap.size then 1 else 0)=1
  rw[if_neg (by omega),if_pos (by omega)]
 ·have hk:(if k=w1.heap.size then 7 else if w.heap.size≤k∧k<w1.heap.size then 1 else 0)≠0:=hk
  split at hk
  ·rename_i e;rw[e];exact dl
  ·split at hk
   ·exact ae k (by omega)
   ·exact absurd rfl hk
 ·have hk:(if k=w1.heap.size then 7 else if w.heap.size≤k∧k<w1.heap.size then 1 else 0)≠0:=hk
  split at hk
  ·rename_i e;rw[e];exact JN
  ·split at hk
   ·omega
   ·exact absurd rfl hk
theorem tD {most W:Int}(h:(most<1∨50<most)∨(W<2∨120<W)):
 Calls prog 30 #[.int .i64 most,.int .i64 W] w fun e w'=>∃x:Int,e=.returned (.tuple #[.pointer none,x])∧x≠0∧An w w':=by
 have h3:(decide (most<1)=true)∨(decide (most<1)=false∧decide (most>50)=true)∨(decide (most<1)=false∧decide (most>50)=false∧(W<2∨120<W)):=by
  by_cases h1:most<1
  ·exact .inl (by simpa using h1)
  ·by_cases h2:50<most
   ·exact .inr (.inl ⟨by simpa using h1,by simpa using h2⟩)
   ·exact .inr (.inr ⟨by simpa using h1,by simp;omega,by omega⟩)
 clear h;rcases h3 with b1|⟨b1,b2⟩|⟨b1,b2,hW⟩
 ·exact I78
 ·exact I78
 ·have HT:=A6 (eE (w:=w) hW)
  clear hW;go_enter func30,ntmps30
  go_wp2_with fail
  refine HT.out.mono ?_
  rintro e w1 ⟨rfl,he⟩;have HX:=A6 (he.to_alloc (.cells #[(),(0:Int)] 41));clear he;go_wp2_with fail
  go_ret2
  exact⟨1,rfl,by decide,HX.out⟩
theorem yN (h1:1≤most)(h2:most≤50)(h3:2≤W)(h4:W≤120):
 Calls prog 30 #[.int .i64 most,.int .i64 W] w fun e w'=>∃p col v,e=.returned (.tuple #[some p,(0:Int)])∧Dm w' col p v (Kx most W)∧An w w'∧∀k,col k≠0→w.heap.size≤k:=by
 have b1:decide (most<1)=false:=by simp;omega
 have b2:decide (most>50)=false:=by simp;omega
 have HT:=A6 (gG (w:=w) h3 h4);go_enter func30,ntmps30
 go_wp2_with fail
 refine HT.out.mono ?_
 rintro e w1 ⟨B,d,rfl,hO,he⟩;have lp:=An.alloc w1 (.cells #[.slice B W d,(0:Int)] 41);have al:=Aq.new w1 41 #[.slice B W d,.int .i64 0];have ay:=he.trans lp;have s9:Ba _ w.heap.size B W d (Aw W 32):=Ba.ext hO lp;clear HT hO he lp;go_upto_region 6 with fail
 change Code.wp _ _ _ _ (w1.alloc (.cells #[.slice B W d,(0:Int)] 41));generalize w1.alloc (.cells #[.slice B W d,(0:Int)] 41)=w2 at*;have e0:w2.cell? ⟨w1,0,none⟩=some (.slice B W d):=al.cell 0;have e1:w2.cell? ⟨w1,1,none⟩=some (.int .i64 0):=al.cell 1;have HM:=A6 (Dm.made (most:=most) ay (Aj _) s9 h4);have HX:=A6 (ay.to_alloc (.cells (Nn (bV (.slice B W d)) (Kx most W)) 100));clear al ay s9;go_wp2_with (first
  |(refine Great.wpList_boxTo rfl 100 (.tmp 26) rfl _ rfl _ rfl (Nn (bV (.slice B W d)) (Kx most W)) (by kernel_rfl) ?_)
  |(refine wpList_buildTo rfl 100 _ rfl _ rfl (Nn (bV (.slice B W d)) (Kx most W)) (by kernel_rfl) ?_))
 go_ret2
 obtain⟨col,hm,hc⟩:=HM.out;exact⟨_,col,_,rfl,hm,HX.out,hc⟩
structure J7d (W V:Nat)(s:PS):Prop where
 line:xP s
 vis:s.vis.length≤V
 row:aH W s
theorem tA {W V:Nat}(h:aH W s)(hv:s.vis.length≤V)(hl:xP (Ez s k)):aH W (Ez s k)∧(Ez s k).vis.length≤V∧aH W (E0 s k)∧(E0 s k).vis.length≤V+1000:=by
 have hw:=rS (s:=s) (k:=k);unfold fE at hw;injection hw with e1 hw;injection hw with e2 hw;injection hw with e3 hw;injection hw with e4 hw;injection hw with e5 e6;have h1:aH W (Ez s k):=h.same e1 e2 e3 e4;refine⟨h1,by rw[e5];exact hv,?_⟩
 unfold E0;split
 ·exact⟨h,by omega⟩
 ·refine⟨h1.show hl,?_⟩
  obtain⟨k1,k2,k3,k4,k5,k6,k7⟩:=fS hl.lo hl.hi hl.len h1.off h1.lo h1.hi;have h2:=h1.show hl
  show((Ez s k).vis++F0 _ _ _ _).length≤_
  rw[List.length_append,e5];have hr:=h2.row;have ab:=h2.len;have hr:Ug (Jm (Ez s k).tx (Qc (Ez s k).at_ (Ez s k).off (Ez s k).width) (Ez s k).width.toNat) W ((Ez s k).at_-Qc (Ez s k).at_ (Ez s k).off (Ez s k).width):=hr;have ab:(Jm (Ez s k).tx (Qc (Ez s k).at_ (Ez s k).off (Ez s k).width) (Ez s k).width.toNat).length=W:=ab;have h3:=Z4 (a:=(Ez s k).row) (st:=(Ez s k).rat.toNat) (at_:=((Ez s k).at_-Qc (Ez s k).at_ (Ez s k).off (Ez s k).width).toNat) h1.len (by rw[aU hr.2.2.1];exact hr) ab (by have:=h1.row.2.2.2.1;omega)
  omega
theorem aI.lt {ah:List Nat}(h:aI ah):∀x∈ah,x<256:=by
 have hw:∀a,2≤Hk a→a<256:=fun a h=>by unfold Hk at h;(repeat' split at h)<;>omega
 have j7:∀a b,Eo [a] b→b<256:=fun a b h=>by have:=fM.1 h;have:=Vq a;omega
 have ne:∀a b c,Eo [a,b] c→c<256:=fun a b c h=>by have:=rA.1 h;omega
 match ah,h with
 |[],_=>intro x hx;cases hx
 |[a],h=>intro x hx;rw[List.mem_singleton.1 hx];exact hw a h
 |[a,b],h=>
  intro x hx;simp only[List.mem_cons,List.not_mem_nil,or_false]at hx;rcases hx with rfl|rfl
  ·exact hw _ (by have:=h.1;omega)
  ·exact j7 _ _ h.2
 |[a,b,c],h=>
  intro x hx;simp only[List.mem_cons,List.not_mem_nil,or_false]at hx;rcases hx with rfl|rfl|rfl
  ·exact hw _ (by have:=h.1;omega)
  ·exact j7 _ _ h.2.1
  ·exact ne _ _ _ h.2.2
structure L6 (W N:Nat)(s:PS):Prop where
 inv:∃T,Ev N N T s
 win:aH W s
 pend:aI s.pend
theorem zI (h1:1≤most)(h2:most≤50)(h3:2≤W)(h4:W≤120):L6 W 0 (Kx most W):=
 ⟨⟨0,⟨G3.nil,⟨B8 _,Nf 0,Nf 0⟩,fun _=>G3.nil,B8 _,(fun x hx=>by cases hx),⟨G3.nil,B8 _⟩,
  ⟨h1,h2,(by show(0:Int)≤most;omega),Nf 0,Nf 0,(fun x hx=>by cases hx),⟨G3.nil,B8 _⟩,B8 _⟩,B8 _,nofun,nofun,.inr (.inl rfl),(fun e=>by rcases e with e|e<;>cases e),Mg,Aj _⟩⟩,
  ⟨rfl,h3,h4,⟨Nf 0,show(0:Int)≤200 by decide⟩,⟨h3,h4,Nf 0,Int.natCast_nonneg _,fun k hk=>by
   unfold Pn
   show 32≤gI (Aw W 32) k∧gI (Aw W 32) k≠127
   have:gI (Aw W 32) k=32:=by unfold gI;rw[List.getElem?_replicate];simp[hk]
   rw[this];decide⟩,List.length_replicate⟩,trivial⟩
noncomputable def Cj (s:PS)(b:ByteArray):PS:=Bq (Ce s (Dh s.pend (Ap b)).ah) (Dh s.pend (Ap b)).out
theorem cK {W N T V:Nat}(h1:Ev N N T s)(h2:aH W s)(h3:s.vis.length≤V)(hk:Rq k):
 Ev (N+1) (N+1) (T+N+1) (E0 s k)∧aH W (E0 s k)∧(E0 s k).vis.length≤V+1000∧J7d W V (Ez s k):=by
 have j:=h1.key hk;obtain⟨w1,w2,w3,w4⟩:=tA (k:=k) h2 h3 j.line;refine⟨?_,w3,w4,j.line,w2,w1⟩
 unfold E0;split
 ·exact h1.mono (by omega) (by omega) (by omega)
 ·exact⟨j.tx,⟨j.line.len,j.line.lo,j.line.hi⟩,j.rl,j.past,j.pasts,j.first,j.hist,j.ask,j.last,j.now,j.mode,j.idle,j.part,j.told⟩
theorem cJ:∀(ks:List Int) {N T V:Nat} {s:PS},Ev N N T s→aH W s→s.vis.length≤V→(∀k∈ks,Rq k)→
 (∃T' V',T'≤T+ks.length*(N+ks.length+1)∧V'≤V+ks.length*1000∧Ev (N+ks.length) (N+ks.length) T' (Bq s ks)∧aH W (Bq s ks)∧(Bq s ks).vis.length≤V'):=by
 intro ks
 induction ks with
 |nil=>intro N T V s h1 h2 h3 _;exact⟨T,V,by simp,by simp,h1,h2,h3⟩
 |cons k ks ih=>
  intro N T V s h1 h2 h3 h4;obtain⟨a1,a2,a3,_⟩:=cK (k:=k) h1 h2 h3 (h4 k List.mem_cons_self);obtain⟨T',V',ht,hv,i1,i2,i3⟩:=ih a1 a2 a3 (fun x hx=>h4 x (List.mem_cons_of_mem _ hx))
  have e:Bq s (k::ks)=Bq (E0 s k) ks:=rfl;rw[e,List.length_cons];have hm:(ks.length+1)*(N+(ks.length+1)+1)=ks.length*(N+1+ks.length+1)+(N+ks.length+2):=by
   rw[Nat.add_mul,Nat.one_mul,show N+(ks.length+1)+1=N+1+ks.length+1 by omega]
   omega
  refine⟨T',V',by omega,by omega,?_,i2,i3⟩
  rw[show N+(ks.length+1)=N+1+ks.length by omega]
  exact i1
theorem mY (s:PS)(k:Int):(E0 s k).pend=s.pend:=by
 have hw:=rS (s:=s) (k:=k);unfold fE at hw;injection hw with e1 hw;injection hw with e2 hw;injection hw with e3 hw;injection hw with e4 hw;injection hw with e5 e6;unfold E0;split
 ·rfl
 ·exact e6
theorem M0:∀(ks:List Int) (s:PS),(Bq s ks).pend=s.pend:=by
 intro ks
 induction ks with
 |nil=>intro s;rfl
 |cons k ks ih=>intro s;exact(ih (E0 s k)).trans (mY s k)
theorem L6.feed {W N:Nat}{b:ByteArray}(h:L6 W N s)(hN:N≤1900000)(hs:b.size≤4096):
 L6 W (N+(b.size+1)) (Cj s b)∧(Cj s b).told.length≤(b.size+1)*1905000∧(Cj s b).vis.length≤(b.size+1)*1000∧
 (∀i,i<(Dh s.pend (Ap b)).out.length→(Bq (Ce s (Dh s.pend (Ap b)).ah) ((Dh s.pend (Ap b)).out.take i)).over=false→
  GOk (Bq (Ce s (Dh s.pend (Ap b)).ah) ((Dh s.pend (Ap b)).out.take i))∧VOk (Ez (Bq (Ce s (Dh s.pend (Ap b)).ah) ((Dh s.pend (Ap b)).out.take i)) (gI (Dh s.pend (Ap b)).out i))):=by
 obtain⟨T,hT⟩:=h.inv;obtain⟨r1,r2,r3⟩:=V9 (Ap b) s.pend h.pend;have EQ:(Dh s.pend (Ap b)).out.length≤b.size+1:=by
  unfold Dh;have:(Ap b).length=b.size:=F5 b;omega
 have ab:(Dh s.pend (Ap b)).out.length≤4097:=by omega
 have YZ:∀k∈(Dh s.pend (Ap b)).out,Rq k:=fun k hk=>⟨(r2 k hk).1,(r2 k hk).2.1⟩
 have zx:aI (Dh s.pend (Ap b)).ah:=r1;unfold Cj;generalize Dh s.pend (Ap b)=mc at*;obtain⟨s0,gp⟩:∃x,x=Ce s mc.ah:=⟨_,rfl⟩;have i0:Ev N N 0 s0:=by
  rw[gp];exact⟨hT.tx,⟨hT.line.len,hT.line.lo,hT.line.hi⟩,hT.rl,hT.past,hT.pasts,hT.first,hT.hist,hT.ask,hT.last,hT.now,hT.mode,hT.idle,hT.part,Aj _⟩
 have w0:aH W s0:=by rw[gp];exact h.win.same rfl rfl rfl rfl
 have v0:s0.vis.length≤0:=by rw[gp];exact Aj _
 have p0:s0.pend=mc.ah:=by rw[gp];rfl
 rw[←gp];clear gp;have bd:∀n:Nat,n≤4097→n*(N+n+1)≤n*1905000:=fun n hn=>Nat.mul_le_mul_left n (by omega)
 obtain⟨T',V',t1,t2,t3,t4,t5⟩:=cJ mc.out i0 w0 v0 YZ;have al:=bd _ ab;have ap:=J7k 1905000 EQ;have bn:=J7k 1000 EQ;have OO:∀ks,(Bq s0 ks).pend=s0.pend:=fun ks=>M0 ks s0
 refine⟨⟨⟨T',t3.mono (by omega) (by omega) (Aj _)⟩,t4,by rw[OO,p0];exact zx⟩,Ar t3.told (by omega),Ar t5 (by omega),fun i hi _=>?_⟩
 have FS:(mc.out.take i).length=i:=by rw[List.length_take];omega
 obtain⟨T2,V2,u1,u2,u3,u4,u5⟩:=cJ (mc.out.take i) i0 w0 v0 (fun k hk=>YZ k (List.mem_of_mem_take hk))
 rw[FS]at u1 u2 u3;have ak:=bd i (by omega)
 have cg:i*1905000≤4097*1905000:=J7k _ (by omega)
 have eo:i*1000≤4097*1000:=J7k _ (by omega)
 refine⟨u3.gok (by omega) (by omega),?_⟩
 obtain⟨_,_,_,x1,x2,x3⟩:=cK (k:=gI mc.out i) u3 u4 u5 (YZ _ (rW hi));exact⟨x1,by omega,W,x3⟩
theorem Dm.alt {M:Nat→Prop}{p:Nat}{v:SV}(h:Dm w col p v s)(ha:Gw M w w')(hM:∀k,k<w.heap.size→M k→col k=0):Dm w' col p v s:=by
 have hm:∀c,c≠0→∀k,k<w.heap.size→M k→col k≠c:=fun c hc k h1 h2 e=>hc (e▸hM k h1 h2)
 have hp:¬M p:=fun jf=>by have:=hM p h.ses.blk.lt jf;have:=h.ses.own;omega
 exact⟨⟨ha.blk h.ses.blk hp,h.ses.own,h.ses.dat.turn ha (hm 1 (by decide)) fun _ _=>rfl,h.ses.now.turn ha (fun k h1 h2=>⟨hm 2 (by decide) k h1 h2,hm 3 (by decide) k h1 h2⟩) fun _ _=>rfl,fun k hk=>Nat.lt_of_lt_of_le (h.ses.dom k hk) ha.size⟩,h.told.turn ha (fun k h1 h2=>⟨hm 4 (by decide) k h1 h2,hm 5 (by decide) k h1 h2⟩) fun _ _=>rfl,h.vis.turn ha (hm 6 (by decide)) fun _ _=>rfl⟩
def gB (ts:List ByteArray)(i:Nat):ByteArray:=ts[i]?.getD ByteArray.empty
noncomputable def L8 (s0:PS)(ts:List ByteArray)(i:Nat):PS:=(ts.take i).foldl Cj s0
noncomputable def xM (s0:PS)(ts:List ByteArray):Nat→List (Int×List Int)
 |0=>[]
 |i+1=>xM s0 ts i++(L8 s0 ts (i+1)).told
noncomputable def xL (s0:PS)(ts:List ByteArray):Nat→List Int
 |0=>[]
 |i+1=>xL s0 ts i++(L8 s0 ts (i+1)).vis
def bU (ts:List ByteArray):Nat→Nat
 |0=>0
 |i+1=>bU ts i+((gB ts i).size+1)
theorem J2y (ts:List ByteArray){i n:Nat}(h:i≤n):bU ts i≤bU ts n:=by
 induction n with
 |zero=>rw[show i=0 by omega];exact Aj _
 |succ n ih=>
  by_cases e:i=n+1
  ·rw[e];exact Aj _
  ·exact Nat.le_trans (ih (by omega)) (Nat.le_add_right _ _)
def Uj (s0:PS)(ts:List ByteArray)(i:Nat):Prop:=(L8 s0 ts i).over=false∧(gB ts i).size≤4096
theorem nI (s0:PS)(ts:List ByteArray){i:Nat}(hi:i<ts.length):L8 s0 ts (i+1)=Cj (L8 s0 ts i) (gB ts i):=by
 have h:ts.take (i+1)=ts.take i++[gB ts i]:=by
  rw[List.take_add_one];unfold gB;rw[Bm hi]
  rfl
 unfold L8;rw[h,List.foldl_append]
 rfl
def EvR (w:World)(b:Nat)(E:Value)(evs:List (Int×List Int)):Prop:=∃A n c xs,E=.slice A n c∧Bd w b 48 2 A n c xs∧evs.length=n∧Lv w xs evs
theorem Lv.one {l:List (Int×List Int)}(h:Lv w xs l)(hl:xs.length=l.length*2):∀u∈xs,u.oneCell'=true:=by
 intro u hu;obtain⟨j,hj,rfl⟩:=List.getElem_of_mem hu;obtain⟨y,h1,h2,A,n,c,rfl,_⟩:=h (j/2) (by omega)
 rcases Nat.mod_two_eq_zero_or_one j with e|e
 ·rw[show j/2*2=j by omega,Bm hj]at h1
  injection h1 with h1;rw[h1];rfl
 ·rw[show j/2*2+1=j by omega,Bm hj]at h2
  injection h2 with h2;rw[h2];rfl
theorem Lv.app {xs ys:List Value}{l k:List (Int×List Int)}(h:Lv w xs l)(h':Lv w ys k)(hl:xs.length=l.length*2):Lv w (xs++ys) (l++k):=by
 intro i hi;rw[Be]at hi;rcases Nat.lt_or_ge i l.length with ae|ku
 ·obtain⟨y,h1,h2,h3⟩:=h i ae
  have hg:gV (l++k) i=gV l i:=by unfold gV;rw[Bs ae]
  rw[hg];exact⟨y,by rw[Bs (by omega)];exact h1,by rw[Bs (by omega)];exact h2,h3⟩
 ·obtain⟨y,h1,h2,h3⟩:=h' (i-l.length) (by omega)
  have hg:gV (l++k) i=gV k (i-l.length):=by unfold gV;rw[Bx ku]
  rw[hg];refine⟨y,?_,?_,h3⟩
  ·rw[Bx (by omega),show i*2-xs.length=(i-l.length)*2 by omega];exact h1
  ·rw[Bx (by omega),show i*2+1-xs.length=(i-l.length)*2+1 by omega];exact h2
structure Lq (w:World)(b:Nat)(col:Nat→Nat)(E S:Value)(evs:List (Int×List Int))(vis:List Int):Prop where
 ev:∃A n c xs F,E=.slice A n c∧Bd w b 48 2 A n c xs∧evs.length=n∧Jd F w (fun x=>Lv x xs evs)∧∀k,F k→k<w.heap.size∧(col k=0∨col k=5)∧E.ownBlock≠some k∧S.ownBlock≠some k
 evc:∀k,E.ownBlock=some k→col k=0
 vi:∃A n c,S=.slice A n c∧Ba w b A n c vis
 vic:∀k,S.ownBlock=some k→col k=0
theorem Lq.nil (w:World)(b:Nat)(col:Nat→Nat):Lq w b col nl nl [] []:=
 ⟨⟨none,0,0,[],fun _=>False,rfl,Bd.nil _ _ _ _,rfl,fun M w' ha hk i hi=>absurd hi (Nat.not_lt_zero i),fun k hk=>hk.elim⟩,nofun,⟨none,0,0,rfl,Ba.nil _ _⟩,nofun⟩
theorem Lq.ext {E S:Value}(h:Lq w b col E S evs vis)(he:An w w'):Lq w' b col E S evs vis:=by
 obtain⟨⟨A,n,c,xs,F,rfl,h1,h2,h3,h4⟩,h5,⟨A',n',c',rfl,h6⟩,h7⟩:=h;exact⟨⟨A,n,c,xs,F,rfl,Bd.ext h1 he,h2,h3.ext he,fun k hF=>⟨Bo (h4 k hF).1 he.hsize,(h4 k hF).2⟩⟩,h5,⟨A',n',c',rfl,Ba.ext h6 he⟩,h7⟩
theorem Lq.feed {col col':Nat→Nat}{E S:Value}(h:Lq w b col E S evs vis)(t:Km w col w' col')
 (hk:∀k,k<w.heap.size→col k=4∨col k=5∨col k=6→w'.heap[k]? = w.heap[k]? ∧ col' k=0):Lq w' b col' E S evs vis:=by
 obtain⟨⟨A,n,c,xs,F,rfl,h1,h2,h3,h4⟩,h5,⟨A',n',c',rfl,h6⟩,h7⟩:=h;have zero:∀k,k<w.heap.size→col k=0→col' k=0:=fun k hk h0=>Decidable.byContradiction fun hn=>t.2 k hk hn h0
 have ha:Gw (fun k=>col k≠0∧col k≠1∧col k≠5) w w':=⟨t.1.os,t.1.tape,t.1.output,t.1.size,fun k di hn=>by
  by_cases e:col k=5
  ·exact(hk k di (.inr (.inl e))).1
  ·exact t.1.block k di fun uc=>hn ⟨uc.1,uc.2,e⟩,t.1.node⟩
 refine⟨⟨A,n,c,xs,F,rfl,Bd.same h1 fun k di=>ha.block k (Bd.blk h1 k di).2 fun hn=>hn.1 (h5 k di),h2,h3.alt ha fun k di hF hn=>?_,fun k hF=>?_⟩,fun k di=>zero k (Bd.blk h1 k di).2 (h5 k di),⟨A',n',c',rfl,Bd.same h6 fun k di=>ha.block k (Bd.blk h6 k di).2 fun hn=>hn.1 (h7 k di)⟩,fun k di=>zero k (Bd.blk h6 k di).2 (h7 k di)⟩
 ·rcases(h4 k hF).2.1 with e|e
  ·exact hn.1 e
  ·exact hn.2.2 e
 ·obtain⟨g1,g2,g3⟩:=h4 k hF
  refine⟨Bo g1 t.1.size,.inl ?_,g3⟩
  rcases g2 with e|e
  ·exact zero k g1 e
  ·exact(hk k g1 (.inr (.inl e))).2
theorem Zb {b e z n c g:Nat}(h:Bd w b e z A n c xs)(hg:(Ak A n c).ownBlock=some g):∃cs,Aq w g e cs:=by
 obtain⟨_,⟨hv,_⟩|⟨g',cap,cur,hv,_,hb,_⟩⟩:=h
 ·rw[hv]at hg;cases hg
 ·rw[hv]at hg
  have hg:some g'=some g:=hg;injection hg with hg;subst hg;exact⟨_,hb⟩
theorem Va {b b' e e' z z' n c n' c':Nat}{A A':Option Addr}(h:Bd w b e z A n c xs)(h':Bd w b' e' z' A' n' c' sf)(ai:e≠e'):(Ak A n c).ownBlock=none∨(Ak A n c).ownBlock≠(Ak A' n' c').ownBlock:=by
 cases hb:(Ak A n c).ownBlock with
 |none=>exact .inl rfl
 |some g=>
  refine .inr fun e1=>?_
  obtain⟨cs,h1⟩:=Zb h hb;obtain⟨cs',h2⟩:=Zb h' e1.symm;exact ai (h1.inj h2).1
theorem Lq.tells {S:Value}{evs told:List (Int×List Int)}{F:Nat→Prop}
 (h:Lq w b col (.slice A n c) S evs vis) (ac:Bd w b 48 2 A n c xs) (hn:evs.length=n) (hD:Jd F w (fun x=>Lv x xs evs)) (hF:∀k,F k→k<w.heap.size∧(col k=0∨col k=5)∧(Ak A n c).ownBlock≠some k∧S.ownBlock≠some k)
 (hT:Jd (fun k=>col k=5) w fun x=>Lv x sf told) (hm:told.length=m) (hc5:∀k,col k≠0→k<w.heap.size)
 (hO:Bd w' b 48 2 A2 (n+m) c2 (xs++sf)) (av:w.grownBy w' (Ak A n c).ownBlock)
 (cf:(Ak A2 (n+m) c2).ownBlock=(Ak A n c).ownBlock∨(Ak A2 (n+m) c2).ownBlock=some w.heap.size):
 Lq w' b col (.slice A2 (n+m) c2) S (evs++told) vis∧Gw (fun k=>(Ak A n c).ownBlock=some k) w w':=by
 have ha:=Gw.of_own ac av (by decide)
 obtain⟨_,h5,⟨A',n',c',rfl,h6⟩,h7⟩:=h;have ht:=Va h6 ac (by decide)
 refine⟨⟨⟨A2,n+m,c2,xs++sf,fun k=>k<w.heap.size∧(F k∨col k=5),rfl,hO,by rw[Be];omega,?_,fun k hk=>?_⟩,fun k hk=>?_,⟨A',n',c',rfl,Bd.kept h6 av ht⟩,h7⟩,ha⟩
 ·have h1:=((hD.mono (F':=fun k=>k<w.heap.size∧(F k∨col k=5)) fun k hk hf=>⟨hk,.inl hf⟩).and (hT.mono (F':=fun k=>k<w.heap.size∧(F k∨col k=5)) fun k hk hf=>⟨hk,.inr hf⟩)).imp (D':=fun x=>Lv x (xs++sf) (evs++told)) fun x hx=>hx.1.app hx.2 (by rw[ac.len,hn])
  refine h1.alt ha fun k hk hf hM=>?_
  rcases hf.2 with hf|hf
  ·exact(hF k hf).2.2.1 hM
  ·have:=h5 k hM;omega
 ·have ae:k<w'.heap.size:=Bo hk.1 ha.size
  have FL:(Ak A n c).ownBlock≠some k→(Ak A2 (n+m) c2).ownBlock≠some k:=fun h1 h2=>by
   rcases cf with e|e
   ·exact h1 (e.symm.trans h2)
   ·rw[e]at h2;injection h2 with h2;have:=hk.1;omega
  rcases hk.2 with hf|hf
  ·obtain⟨_,g2,g3,g4⟩:=hF k hf
   exact⟨ae,g2,FL g3,g4⟩
  ·exact⟨ae,.inr hf,FL fun e=>by have:=h5 k e;omega,fun e=>by have:=h7 k e;omega⟩
 ·rcases cf with e|e
  ·exact h5 k (e.symm.trans hk)
  ·exact I95
def lnF (s:PS):List Int×Int×(Nat→List Int)×List (List Int×Int)×List (List Int)×Int:=(s.tx,s.at_,s.rl,s.past,s.hi.lines,s.hi.at_)
def BlR (s s':PS):Prop:=s'.told=s.told∨(∃x,s'.told=s.told++[x]∧x.1≠1)∨(lnF s'=lnF s∧s'.told=s.told++[(1,[])])
theorem J1p (s:PS):BlR s (Ec s):=.inr (.inr ⟨rfl,rfl⟩)
theorem J5b (s:PS)(c:Cm)(d:Dn):BlR s (Hq s c d):=by
 unfold Hq L3 Fe;split<;>(split<;>exact .inl rfl)
theorem J5a (s:PS)(c:Cm):BlR s (doS s c):=by
 unfold doS;cases L2 s.tx s.rl s.at_ s.fk s.fa c with
 |none=>exact J1p s
 |some d=>exact J5b s c d
def P6 (s:PS):PS:={ s with off:=0,row:=[],rat:=0,vis:=[],part:=Pt.zero }
theorem Qn:∀(l:List Int) (a:Al),a.out.length≤(Dr a l).out.length∧a.wrong≤(Dr a l).wrong:=by
 intro l
 induction l with
 |nil=>exact fun a=>⟨Aj _,Aj _⟩
 |cons k l ih=>
  intro a;obtain⟨h1,h2⟩:=ih (F8 a k);have e:Dr a (k::l)=Dr (F8 a k) l:=rfl;have g1:a.out.length≤(F8 a k).out.length:=by
   show _≤(if(Bp a.p k).how=2 then a.out++[(Bp a.p k).c]else a.out).length
   split
   ·simp
   ·exact Aj _
  have g2:a.wrong≤(F8 a k).wrong:=by
   show _≤(if(Bp a.p k).how=3 then a.wrong+1 else a.wrong)
   split<;>omega
  rw[e];exact⟨Ar g1 h1,Ar g2 h2⟩
theorem vU:∀(l:List Int) (a:Al),Ew a.p=true→Ew (Dr a l).p=true:=by
 intro l
 induction l with
 |nil=>exact fun a h=>h
 |cons k l ih=>exact fun a h=>ih (F8 a k) (Kk (k:=k) h).1
theorem vE (hm:s.mode=0)(ho:s.over=false)(h:(Bp s.part k).how=1):E0 s k=Jo { s with part:=(Bp s.part k).p }:=by
 have hk:¬k<32:=fun e=>by rw[M9 e]at h;exact absurd h (by decide)
 unfold E0;rw[if_neg (by rw[ho];decide)]
 unfold Ez;rw[if_neg (by omega),if_neg (by rw[hm];decide),if_neg (by omega),if_neg (by omega),if_neg (by rw[hm];decide)]
 unfold Pk;rw[if_neg (by rw[h];decide),if_neg (by rw[h];decide)]
theorem vF (hm:s.mode=0)(ho:s.over=false)(h:(Bp s.part k).how=2):E0 s k=Jo (Di { s with part:=(Bp s.part k).p } (Bp s.part k).c):=by
 have hk:¬k<32:=fun e=>by rw[M9 e]at h;exact absurd h (by decide)
 unfold E0;rw[if_neg (by rw[ho];decide)]
 unfold Ez;rw[if_neg (by omega),if_neg (by rw[hm];decide),if_neg (by omega),if_neg (by omega),if_neg (by rw[hm];decide)]
 unfold Pk;rw[if_pos h]
theorem tK:∀(l:List Int) {a:Al} {s:PS},s.mode=0→s.over=false→s.part=a.p→Ew a.p=true→(Dr a l).out.length=a.out.length→(Dr a l).wrong=a.wrong→
 P6 (Bq s l)=P6 s∧(Bq s l).part=(Dr a l).p:=by
 intro l
 induction l with
 |nil=>exact fun _ _ hp _ _ _=>⟨rfl,hp⟩
 |cons k l ih=>
  intro a s hm ho hp hc h1 h2;obtain⟨g1,g2⟩:=Qn l (F8 a k);obtain⟨q1,q2⟩:=Qn [k] a;have e:Dr a (k::l)=Dr (F8 a k) l:=rfl;have e1:Dr a [k]=F8 a k:=rfl;rw[e]at h1 h2;rw[e1]at q1 q2;have hk:=Kk (k:=k) hc;have n2:(Bp a.p k).how≠2:=fun e2=>by
   have:(F8 a k).out.length=a.out.length+1:=by unfold F8;simp[e2]
   omega
  have n3:(Bp a.p k).how≠3:=fun e3=>by
   have:(F8 a k).wrong=a.wrong+1:=by unfold F8;simp[e3]
   omega
  have n1:(Bp s.part k).how=1:=by rw[hp];rcases hk.2.1 with h|h|h;exact h;exact absurd h n2;exact absurd h n3
  have hs:=vE hm ho n1;obtain⟨r1,r2⟩:=ih (a:=F8 a k) (s:=E0 s k) (by rw[hs];exact hm) (by rw[hs];exact ho) (by rw[hs,hp];rfl) hk.1 (by omega) (by omega)
  refine⟨?_,r2⟩
  show P6 (Bq (E0 s k) l)=P6 s
  rw[r1,hs]
  rfl
theorem J1f {c:Cm}(h:Fw ks=⟨[c],Pt.zero,0⟩)(hm:s.mode=0)(hp:s.part=Pt.zero)(ho:s.over=false):
 ∃s1:PS,P6 s1=P6 s∧s1.part=Pt.zero∧Bq s ks=Jo (Di s1 c):=by
 have ai:ks≠[]:=fun e=>by rw[e]at h;cases h
 obtain⟨ini,k,rfl⟩:∃ini k,ks=ini++[k]:=⟨ks.dropLast,ks.getLast ai,(List.dropLast_concat_getLast ai).symm⟩;unfold Fw at h;rw[Nm]at h;obtain⟨g1,g2⟩:=Qn [k] (Dr ⟨[],Pt.zero,0⟩ ini);have hc:=vU ini ⟨[],Pt.zero,0⟩ Mg;obtain⟨q1,q2⟩:=Qn ini ⟨[],Pt.zero,0⟩;have de:=tK ini (a:=⟨[],Pt.zero,0⟩) (s:=s) hm ho hp Mg;generalize Dr ⟨[],Pt.zero,0⟩ ini=b at*;have hw:=congrArg Al.wrong h;have je:=congrArg Al.out h;have mf:=congrArg Al.p h;rw[h]at g1 g2;have g2:b.wrong≤0:=g2;have hk:=Kk (k:=k) hc;have mf:(Bp b.p k).p=Pt.zero:=mf;have hw:(if(Bp b.p k).how=3 then b.wrong+1 else b.wrong)=0:=hw;have je:(if(Bp b.p k).how=2 then b.out++[(Bp b.p k).c]else b.out)=[c]:=je;rcases hk.2.1 with e|e|e
 ·exact absurd mf (yK hc e)
 ·rw[if_pos e]at je
  have hb:b.out=[]:=by
   cases hbo:b.out with
   |nil=>rfl
   |cons x l=>rw[hbo]at je;have:=congrArg List.length je;simp at this
  rw[hb]at je;have sw:(Bp b.p k).c=c:=by simpa using je
  obtain⟨r1,r2⟩:=de (by rw[hb]) (by show b.wrong=0;omega)
  have m1:(Bq s ini).mode=0:=(show(P6 (Bq s ini)).mode=(P6 s).mode from congrArg PS.mode r1).trans hm
  have o1:(Bq s ini).over=false:=(show(P6 (Bq s ini)).over=(P6 s).over from congrArg PS.over r1).trans ho
  refine⟨{ Bq s ini with part:=Pt.zero },?_,rfl,?_⟩
  ·rw[←r1];rfl
  ·rw[Ri,vF m1 o1 (by rw[r2];exact e),r2,sw,mf]
 ·rw[if_pos e]at hw;omega
theorem Wd:∀(l:List Int) (out:List Int),(∀x∈l,Df x)→Ke (Hs l) ⟨[],out⟩=⟨[],out++l⟩:=by
 intro l
 induction l with
 |nil=>intro out _;rw[List.append_nil];rfl
 |cons x l ih=>
  intro out h;have hx:=h x List.mem_cons_self;obtain⟨c,rfl⟩:∃c:Nat,x=c:=⟨x.toNat,by have:=hx;unfold Df at this;omega⟩
  have e:Hs ((c:Int)::l)=Gz c++Hs l:=rfl;rw[e,Sr,tL hx,ih _ (fun y hy=>h y (List.mem_cons_of_mem _ hy)),List.append_assoc]
  rfl
def Cg (s:PS):PS:={ s with off:=0,row:=[],rat:=0,vis:=[] }
theorem Sm (s:PS):Cg (Jo s)=Cg s:=rfl
theorem mI (s:PS):Cg (Pu s)=Pu (Cg s):=rfl
theorem Tp (s:PS)(k:Int):Cg (Cn s k)=Cn (Cg s) k:=by
 unfold Cn;split
 ·rfl
 ·show _=(match Gy s.mode s.tx s.at_.toNat k with|none=>_|some (m,b)=>_)
  exact I158
theorem sN:∀(ks:List Int) (s:PS),Cg (keysF s ks)=keysF (Cg s) ks:=by
 intro ks
 induction ks with
 |nil=>exact fun s=>rfl
 |cons k ks ih=>
  intro s
  show Cg (keysF (Cn s k) ks)=keysF (Cn (Cg s) k) ks
  rw[ih,Tp]
theorem kJ (s:PS)(c:Cm)(d:Dn):Cg (Hq s c d)=Hq (Cg s) c d:=by
 unfold Hq L3 Fe;split<;>(show Cg (if d.md=0 then _ else _)=(if d.md=0 then _ else _);split<;>rfl)
theorem kI (s:PS)(c:Cm):Cg (doS s c)=doS (Cg s) c:=by
 unfold doS
 show _=(match L2 s.tx s.rl s.at_ s.fk s.fa c with|none=>_|some d=>_)
 cases L2 s.tx s.rl s.at_ s.fk s.fa c with
 |none=>rfl
 |some d=>exact kJ s c d
theorem mJ (s:PS)(n:Int):Cg (Dv s n)=Dv (Cg s) n:=by
 unfold Dv
 show _=(match s.last with|none=>_|some (c,ks)=>_)
 cases s.last with
 |none=>rfl
 |some x=>
  obtain⟨c,ks⟩:=x;simp only
  show _=(match L2 s.tx s.rl s.at_ s.fk s.fa (Cf c n)with|none=>_|some d=>_)
  cases L2 s.tx s.rl s.at_ s.fk s.fa (Cf c n)with
  |none=>rfl
  |some d=>
   simp only;rw[←kJ]
   show _=(if(Hq s (Cf c n) d).mode=0 then _ else _)
   split
   ·rfl
   ·rw[Tp,sN]
theorem gF (s:PS)(h:k≠27):(Cn s k).mode=s.mode∧(Cn s k).over=s.over∧(Cn s k).part=s.part∧(Cn s k).first=s.first∧(Cn s k).pend=s.pend:=by
 unfold Cn;rw[if_neg h];cases Gy s.mode s.tx s.at_.toNat k with
 |none=>exact⟨rfl,rfl,rfl,rfl,rfl⟩
 |some r=>exact⟨rfl,rfl,rfl,rfl,rfl⟩
def Typ (l:List Int):Prop:=∀k∈l,k=8∨(32≤k∧k≠127)
theorem Xf (hm:s.mode=1∨s.mode=2)(ho:s.over=false)(hk:k≠3∧k≠13∧k≠10∧k≠4):E0 s k=Jo (Cn s k):=by
 unfold E0;rw[if_neg (by rw[ho];decide)]
 unfold Ez;rw[if_neg hk.1,if_neg (by omega),if_neg (by omega),if_neg hk.2.2.2,if_pos (by omega)]
theorem eH:∀(l:List Int) {s:PS},(s.mode=1∨s.mode=2)→s.over=false→Typ l→
 Cg (Bq s l)=keysF (Cg s) l∧(Bq s l).mode=s.mode∧(Bq s l).over=false:=by
 intro l
 induction l with
 |nil=>exact fun _ ho _=>⟨rfl,rfl,ho⟩
 |cons k l ih=>
  intro s hm ho ht;have hk:=ht k List.mem_cons_self;have hs:=Xf hm ho (k:=k) ⟨by omega,by omega,by omega,by omega⟩
  obtain⟨m1,m2,_⟩:=gF s (k:=k) (by omega)
  have e1:(E0 s k).mode=s.mode:=by rw[hs];exact m1
  have e2:(E0 s k).over=false:=by rw[hs];exact m2.trans ho
  obtain⟨r1,r2,r3⟩:=ih (s:=E0 s k) (by rw[e1];exact hm) e2 (fun x hx=>ht x (List.mem_cons_of_mem _ hx))
  refine⟨?_,r2.trans e1,r3⟩
  show Cg (Bq (E0 s k) l)=keysF (Cn (Cg s) k) l
  rw[r1,hs,Sm,Tp]
theorem Z3 (hm:s.mode=1∨s.mode=2)(ho:s.over=false)(ht:Typ l):Cg (Bq s (l++[27]))=Pu (keysF (Cg s) l)∧(Bq s (l++[27])).mode=0∧(Bq s (l++[27])).over=false:=by
 obtain⟨r1,r2,r3⟩:=eH l hm ho ht;rw[Ri,Xf (by rw[r2];exact hm) r3 ⟨by decide,by decide,by decide,by decide⟩,Qh]
 exact⟨by rw[Sm,mI,r1],rfl,r3⟩
theorem sO (s:PS)(pat:List Int)(a b:Bool):Cg (Fs s pat a b)=Fs (Cg s) pat a b:=by
 unfold Fs;split
 ·rename_i h
  rw[dif_pos (show ∃k,Y7 (Cg s).hi (Cg s).tx pat a k∧k<(Cg s).hi.lines.length from h)]
  rfl
 ·rename_i h
  rw[dif_neg (show ¬ ∃k,Y7 (Cg s).hi (Cg s).tx pat a k∧k<(Cg s).hi.lines.length from h)]
  rfl
theorem eC (s:PS)(c:Cm):Cg (Di s c)=Di (Cg s) c:=by
 unfold Di;split
 ·exact kI s c
 split
 ·unfold Gm
  show _=(if s.past.length=0 then _ else _)
  split<;>rfl
 split
 ·unfold J4
  show _=(bif Uv s.tx s.first then _ else _)
  cases Uv s.tx s.first<;>rfl
 split
 ·exact mJ s _
 split
 ·unfold lV
  split
  ·rename_i h
   rw[if_pos (show Gh (Cg s).hi (Cg s).tx c.count∧(Fv c.count:Int)≤(Cg s).hi.at_ from h)]
   rfl
  ·rename_i h
   rw[if_neg (show ¬(Gh (Cg s).hi (Cg s).tx c.count∧(Fv c.count:Int)≤(Cg s).hi.at_)from h)]
   rfl
 split
 ·unfold Nc
  split
  ·rename_i h
   rw[if_pos (show Gh (Cg s).hi (Cg s).tx c.count∧(Fv c.count:Int)+(Cg s).hi.at_≤((Cg s).hi.lines.length:Int)from h)]
   rfl
  ·rename_i h
   rw[if_neg (show ¬(Gh (Cg s).hi (Cg s).tx c.count∧(Fv c.count:Int)+(Cg s).hi.at_≤((Cg s).hi.lines.length:Int))from h)]
   rfl
 split
 ·unfold Na
  split
  ·rename_i h
   rw[if_pos (show Gh (Cg s).hi (Cg s).tx c.count∧c.count≤((Cg s).hi.lines.length:Int)∧0<(Cg s).hi.lines.length from h)]
   rfl
  ·rename_i h
   rw[if_neg (show ¬(Gh (Cg s).hi (Cg s).tx c.count∧c.count≤((Cg s).hi.lines.length:Int)∧0<(Cg s).hi.lines.length)from h)]
   rfl
 split
 ·exact sO s _ _ _
 split
 ·rfl
 ·exact kI s c
theorem Sg {c:Cm}(h:Fw ks=⟨[c],Pt.zero,0⟩)(hm:s.mode=0)(hp:s.part=Pt.zero)(ho:s.over=false):Cg (Bq s ks)=Di (Cg s) c:=by
 obtain⟨s1,h1,hq,h2⟩:=J1f h hm hp ho;have e:Cg s1=Cg s:=by
  have e1:Cg s1={ P6 s1 with part:=s1.part }:=rfl;have e2:Cg s={ P6 s with part:=s.part }:=rfl;rw[e1,e2,h1,hq,hp]
 rw[h2,Sm,eC,e]
def qS (c:Int):Prop:=c=8∨(32≤c∧c≠127)
theorem yI {c:Int}(h:qS c):Calls prog 46 #[.int .i64 c] w fun e w'=>e=.returned (.bool false)∧w'=w:=by
 rcases h with rfl|⟨h1,h2⟩
 ·exact I21
 ·have h3:(c==127)=false:=by simpa using h2
  have h4:decide (c<32)=false:=by simpa using h1
  have h5:(c !=8)=true:=by simp;omega
  clear h2;exact I21
theorem sR {c:Int}(h:¬qS c):Calls prog 46 #[.int .i64 c] w fun e w'=>e=.returned (.bool true)∧w'=w:=by
 unfold qS at h;have h8:(c !=8)=true:=by simp;omega
 by_cases h1:c<32
 ·clear h
  exact I21
 ·obtain rfl:c=127:=by omega
  clear h h1 h8;exact I21
theorem yH (hl:Bj w A n c l):
 Calls prog 70 #[.slice A n c,.func (.func 46) #[] #[]] w fun e w'=>w'=w∧(((∀k,k<n→qS (gI l k))∧e=.returned (.int .i64 (-1)))∨((¬ ∀k,k<n→qS (gI l k))∧∃k:Nat,e=.returned (.int .i64 k))):=by
 have h1:=hl.ncap;have h2:=hl.nmax;unfold maxLen at h2;go_enter func70,ntmps70
 go_wp2_with fail
 go_loopw [8] (fun i wr=>∃k:Nat,k≤n∧i=.int .i64 k∧Hid (∀j,j<k→qS (gI l j))∧wr=w) (fun i _=>n-(intOf i).toNat)
 case atStart=>exact⟨0,by omega,rfl,A6 (fun j h=>absurd h (by omega)),rfl⟩
 case round=>
  obtain⟨k,hk,rfl,HK,rfl⟩:=hrel;by_cases ae:k<n
  ·obtain⟨a1,rfl,bh⟩:=hl.at_ ae
   have c1:=bh k ae;clear bh;by_cases hz:qS (gI l k)
   ·have HN:Hid (∀j,j<k+1→qS (gI l j)):=A6 (fun j hj=>by
     rcases Nat.lt_or_ge j k with h3|h3
     ·exact HK.out j h3
     ·rw[show j=k by omega];exact hz)
    go_wp2_with fail
    refine(yI hz).mono ?_
    rintro e w1 ⟨rfl,rfl⟩;clear hz;go_wp2_with fail
    go_roundw
    case rel=>exact⟨k+1,by omega,by go_num,HN,trivial⟩
    case measure=>simp[intOf];omega
   ·have HZ:Hid (¬ ∀k,k<n→qS (gI l k)):=A6 fun h=>hz (h k ae)
    go_wp2_with fail
    refine(sR hz).mono ?_
    rintro e w1 ⟨rfl,rfl⟩;clear hz;go_wp2_with fail
    go_ret
    exact⟨rfl,.inr ⟨HZ.out,k,rfl⟩⟩
  ·obtain rfl:k=n:=by omega
   go_wp2_with fail
   go_ret
   exact⟨rfl,.inl ⟨HK.out,rfl⟩⟩
def J7e (n:Nat)(l:List Int)(w:World)(e:Ending)(w':World):Prop:=∃b:Bool,e=.returned (.bool b)∧w'=w∧(b=true→Typ l)
theorem J2v {n:Nat}(hn:l.length=n)(h:∀k,k<n→qS (gI l k)):Typ l:=fun x hx=>by
 obtain⟨i,hi,rfl⟩:=List.mem_iff_getElem.1 hx;have:=h i (by omega)
 unfold gI at this;rw[List.getElem?_eq_getElem hi]at this;exact this
theorem mL (hl:Bj w A n c l):
 Calls prog 26 #[.slice A n c] w (J7e n l w):=by
 have HI:=A6 (yH hl);have HN:=A6 hl.len;clear hl;have HC:Hid (Calls prog 45 #[.slice A n c,.func (.func 46) #[] #[]] w fun e w'=>w'=w∧(((∀k,k<n→qS (gI l k))∧e=.returned (.bool false))∨((¬ ∀k,k<n→qS (gI l k))∧e=.returned (.bool true)))):=A6 (by
  go_enter func45,ntmps45
  go_wp2_with fail
  refine HI.out.mono ?_
  rintro e w1 ⟨rfl,⟨ha,rfl⟩|⟨ha,k,rfl⟩⟩
  ·have HH:=A6 ha
   clear ha;go_wp2_with fail
   go_ret
   exact⟨rfl,.inl ⟨HH.out,rfl⟩⟩
  ·have HH:=A6 ha
   clear ha;have hk:decide ((0:Int)≤(k:Int))=true:=by simp
   go_wp2_with fail
   go_ret
   exact⟨rfl,.inr ⟨HH.out,by first|rfl|simp⟩⟩)
 clear HI;go_enter func26,ntmps26
 go_wp2_with fail
 refine HC.out.mono ?_
 rintro e w1 ⟨rfl,⟨ha,rfl⟩|⟨ha,rfl⟩⟩
 ·have HH:=A6 ha
  clear ha HC;go_wp2_with fail
  go_ret
  exact⟨_,rfl,rfl,fun _=>J2v HN.out HH.out⟩
 ·clear ha HC
  go_wp2_with fail
  go_ret
  exact⟨_,rfl,rfl,fun e=>by cases e⟩
def Vn (o v:Int):Int:=if(Gg o v).1=99 then 1 else if(Gg o v).1≠0 then 0 else if(Gg o v).2=105∨(Gg o v).2=73∨(Gg o v).2=97∨(Gg o v).2=65 then 1 else if(Gg o v).2=82 then 2 else 0
theorem J6c {a:Int}{k2 k3:Int}{f t:Nat}{whole:Bool}{m:List Int}{at_ md:Int}{co:Nat→List Int}{e:List Gp}(h:Lu l a rl k2 k3 f t whole m at_ md co e):md=if k3=99 then 1 else 0:=by
 obtain⟨_,_,⟨rfl,_,h1,_⟩|⟨_,_,_,⟨rfl,_,h1⟩|⟨h2,h1,_⟩⟩⟩:=h
 ·rw[h1];rfl
 ·rw[h1];rfl
 ·rw[h1,if_neg h2]
theorem bB {a fk fa:Int}{c:Cm}{d:Dn}(h:Yr l rl a fk fa c d):d.md=Vn c.op c.verb:=by
 obtain⟨_,ed,h⟩:=h;unfold Vn;generalize (Gg c.op c.verb).1=o at*;generalize (Gg c.op c.verb).2=v at*;rcases h with⟨lq,mk,ma,_,⟨h0,_,_,h1,_⟩|⟨h0,f,t,_,h1⟩⟩|⟨lq,h0,_,_,_,h1⟩|⟨lq,h0,_,_,f,t,whole,_,_,_,h1⟩
 ·have hn:¬(v=105∨v=73∨v=97∨v=65):=fun e=>by rcases e with rfl|rfl|rfl|rfl<;>exact absurd lq (by decide)
  have kw:v≠82:=fun e=>by subst e;exact absurd lq (by decide)
  rw[h1,if_neg (by rw[h0];decide),if_neg (by rw[h0];decide),if_neg hn,if_neg kw]
 ·exact I131
 ·rw[if_neg (by rw[h0];decide),if_neg (by rw[h0];decide)]
  rcases h1 with⟨rfl,_,h1⟩|⟨rfl,_,h1⟩|⟨rfl,_,_,_,_,h1⟩|⟨rfl,_,_,_,_,h1⟩|⟨_,_,⟨rfl,_,h1⟩|⟨rfl,_,h1⟩|⟨rfl,_,h1⟩|⟨rfl,_,h1⟩|⟨rfl,_,h1⟩⟩<;>(rw[h1];rfl)
 ·exact I131
theorem Xa (s:PS)(k:Int):s.told.length≤(Cn s k).told.length:=by
 unfold Cn;split
 ·exact Aj _
 ·cases Gy s.mode s.tx s.at_.toNat k with
  |none=>show _≤(s.told++[_]).length;simp
  |some r=>exact Aj _
theorem oO:∀(l:List Int) (s:PS),s.told.length≤(keysF s l).told.length:=by
 intro l
 induction l with
 |nil=>exact fun s=>Aj _
 |cons k l ih=>exact fun s=>Nat.le_trans (Xa s k) (ih (Cn s k))
theorem vB:∀(l:List Int) {s:PS} {c:Cm} {ks:List Int},(∀k∈l,k≠27)→s.now=some (c,ks)→(keysF s l).told.length=s.told.length→(keysF s l).now=some (c,ks++l):=by
 intro l
 induction l with
 |nil=>intro s c ks _ h _;rw[List.append_nil];exact h
 |cons k l ih=>
  intro s c ks hk h ht;have tm:=hk k List.mem_cons_self;have e:keysF s (k::l)=keysF (Cn s k) l:=rfl;rw[e]at ht ⊢;have g1:=Xa s k;have g2:=oO l (Cn s k);have hn:(Cn s k).now=some (c,ks++[k]):=by
   unfold Cn at g2 ht ⊢;rw[if_neg tm]at g2 ht ⊢;cases zm:Gy s.mode s.tx s.at_.toNat k with
   |none=>
    exfalso
    rw[zm]at g2 ht;have g2:(s.told++[(1,[])]).length≤(keysF (Ec s) l).told.length:=g2;have ht:(keysF (Ec s) l).told.length=s.told.length:=ht;simp at g2;omega
   |some r=>
    show s.now.map _=_
    rw[h]
    rfl
  have:=ih (s:=Cn s k) (c:=c) (ks:=ks++[k]) (fun x hx=>hk x (List.mem_cons_of_mem _ hx)) hn (by omega)
  rw[this,List.append_assoc]
  rfl
theorem Lg {fn:Func}{t u v x:Tmp}(h:fn.results=#[.tmp t,.tmp u,.tmp v,.tmp x])(tmps:Array Value)(P:Program)(w:World):
 (results fn tmps).run P w=.ok (.tuple #[tmps.getD t undef,tmps.getD u undef,tmps.getD v undef,tmps.getD x undef]) w:=by
 simp[results,h]
theorem Lq.shows {E:Value}{vis news:List Int}
 (h:Lq w b col E (.slice A n c) evs vis) (ac:Ba w b A n c vis) (hc5:∀k,col k≠0→k<w.heap.size)
 (hO:Bd w' b 3 1 A2 (n+m) c2 (vis.map (Av .i64)++news.map (Av .i64))) (av:w.grownBy w' (Ak A n c).ownBlock)
 (cf:(Ak A2 (n+m) c2).ownBlock=(Ak A n c).ownBlock∨(Ak A2 (n+m) c2).ownBlock=some w.heap.size):
 Lq w' b col E (.slice A2 (n+m) c2) evs (vis++news)∧Gw (fun k=>(Ak A n c).ownBlock=some k) w w':=by
 have ha:=Gw.of_own ac av (by decide)
 obtain⟨⟨A1,n1,c1,xs,F,rfl,h1,h2,h3,h4⟩,h5,_,h7⟩:=h;refine⟨⟨⟨A1,n1,c1,xs,F,rfl,Bd.kept h1 av (Va h1 ac (by decide)),h2,h3.alt ha fun k hk hf hM=>(h4 k hf).2.2.2 hM,fun k hf=>?_⟩,h5,⟨A2,n+m,c2,rfl,by unfold Ba;rw[List.map_append];exact hO⟩,fun k hk=>?_⟩,ha⟩
 ·obtain⟨g1,g2,g3,g4⟩:=h4 k hf
  refine⟨Nat.lt_of_lt_of_le g1 ha.size,g2,g3,fun e=>?_⟩
  rcases cf with e1|e1
  ·exact g4 (e1.symm.trans e)
  ·rw[e1]at e;injection e with e;omega
 ·rcases cf with e|e
  ·exact h7 k (e.symm.trans hk)
  ·exact I95
def S9 (most W:Int):Prop:=(1≤most∧most≤50)∧2≤W∧W≤120
def J6t (b:Nat)(s0:PS)(ts:List ByteArray)(n W:Nat)(e:Ending)(w':World):Prop:=
 ∃p col v E S,e=.returned (.tuple #[some p,E,S,true])∧Dm w' col p v (L8 s0 ts n)∧L6 W (bU ts n) (L8 s0 ts n)∧(∀k,col k≠0→b≤k)∧Lq w' b col E S (xM s0 ts n) (xL s0 ts n)
theorem rY {most W:Int}{ts:List ByteArray}(hr:Rd w 1 A n c (ts.map Value.string))(dl:∀i,i≤n→(∀j,j<i→(gB ts j).size≤4096)→bU ts i≤1900000):
 Calls prog 10 #[.int .i64 most,.int .i64 W,.slice A n c] w fun e w'=>An w w'∧
  (
   (S9 most W∧(∀j,j<n→Uj (Kx most W.toNat) ts j)∧J6t w.heap.size (Kx most W.toNat) ts n W.toNat e w')∨
   (¬(S9 most W∧∀j,j<n→Uj (Kx most W.toNat) ts j)∧e=.returned (.tuple #[.pointer none,(),(),false]))):=by
 obtain⟨i0,hi,bm,bz,az⟩:=info_parts Cd;obtain⟨i1,hj,OP,um,BM⟩:=info_parts Vf;have ab:ts.length=n:=by have:=hr.len;rw[List.length_map]at this;omega
 have ky:n≤maxLen:=Ar hr.ncap hr.nmax;unfold maxLen at ky;have HR:=A6 hr;have ru:=A6 ab;clear hr ab;by_cases hf:S9 most W
 ·obtain⟨Wn,rfl⟩:∃Wn:Nat,W=(Wn:Int):=⟨W.toNat,by have:=hf.2.1;omega⟩
  have HF:=A6 hf;have nk:=A6 (yN (w:=w) (W:=Wn) hf.1.1 hf.1.2 (by have:=hf.2.1;omega) (by have:=hf.2.2;omega))
  have zd:=A6 (zI hf.1.1 hf.1.2 (show 2≤Wn by have:=hf.2.1;omega) (by have:=hf.2.2;omega))
  clear hf;rw[show((Wn:Int)).toNat=Wn from rfl]
  obtain⟨s0,gp⟩:∃x,x=Kx most Wn:=⟨_,rfl⟩;rw[←gp]at nk zd ⊢;clear gp;go_enter func10,ntmps10
  go_wp2_with fail
  refine nk.out.mono ?_
  rintro e w1 ⟨p,col1,v1,rfl,dm,aj,bh⟩;have zh:=A6 dm;have oq:=A6 aj;have zr:=A6 bh;clear dm aj bh nk;go_wp2_with fail
  go_loopw [12,13,33] (fun s12 s13 s33 wx=>∃(i:Nat) (col:Nat→Nat) (v:SV),i≤n∧s33=.int .i64 i∧Hid (Dm wx col p v (L8 s0 ts i))∧Hid (L6 Wn (bU ts i) (L8 s0 ts i))∧Hid (∀k,col k≠0→w.heap.size≤k)∧Hid (An w wx)∧
   Hid (Lq wx w.heap.size col s12 s13 (xM s0 ts i) (xL s0 ts i))∧Hid ((xM s0 ts i).length≤bU ts i*1905000∧(xL s0 ts i).length≤bU ts i*1000)∧Hid (∀j,j<i→Uj s0 ts j)) (fun _ _ s33 _=>n-(intOf s33).toNat)
  case atStart=>exact⟨0,col1,v1,by omega,rfl,zh,zd,zr,oq,A6 (Lq.nil w1 _ col1),A6 ⟨B8 _,B8 _⟩,A6 fun j hj=>absurd hj (Nat.not_lt_zero j)⟩
  case round=>
   clear zh zd zr oq;obtain⟨i,col,v,lm,rfl,HM,HS,HC,HX,HH,HB,HG⟩:=hrel;by_cases ae:i<n
   ·have FS:i<ts.length:=by rw[ru.out];exact ae
    obtain⟨ad,e,hc⟩:=(Rd.ext HR.out HX.out).at_ ae;subst e;have FM:=hc i (.string (gB ts i)) (by rw[List.getElem?_map];unfold gB;rw[List.getElem?_eq_getElem FS];rfl)
    have OQ:=dl i lm fun j hj=>(HG.out j hj).2
    have CF:bU ts (i+1)=bU ts i+((gB ts i).size+1):=rfl;clear hc;by_cases gy:(L8 s0 ts i).over=true
    ·have rx:=A6 (gX (b:=gB ts i) HM.out gy)
     have ns:Hid (¬(S9 most Wn∧∀j,j<n→Uj s0 ts j)):=A6 fun h=>by have:=(h.2 i ae).1;rw[gy]at this;cases this
     clear gy CF OQ;go_wp2_with fail
     refine rx.out.mono ?_
     rintro e w2 ⟨rfl,rfl⟩;exact I100
    ·have gy:(L8 s0 ts i).over=false:=by simpa using gy
     by_cases qj:4096<(gB ts i).size
     ·have rx:=A6 (nD (b:=gB ts i) HM.out gy HS.out.pend HS.out.pend.lt qj)
      have ns:Hid (¬(S9 most Wn∧∀j,j<n→Uj s0 ts j)):=A6 fun h=>by have:=(h.2 i ae).2;omega
      clear gy qj CF OQ;go_wp2_with fail
      refine rx.out.mono ?_
      rintro e w2 ⟨rfl,he⟩;have im:=A6 (HX.out.trans he);clear he;go_wp2_with fail
      refine bodyPost_ret (Lg rfl _ _ _) rfl ⟨im.out,.inr ⟨ns.out,rfl⟩⟩
     ·have iw:=dl (i+1) (by omega) fun j hj=>by
       by_cases e:j=i
       ·rw[e];omega
       ·exact(HG.out j (by omega)).2
      obtain⟨q1,q2,q3,q4⟩:=HS.out.feed (b:=gB ts i) (by omega) (by omega)
      have rx:=A6 (Wf (b:=gB ts i) HM.out gy HS.out.pend HS.out.pend.lt (by omega) q4)
      have fc:=nI s0 ts FS;have ZA:Hid (Cj (L8 s0 ts i) (gB ts i)=L8 s0 ts (i+1)):=A6 fc.symm;rw[←fc]at q1 q2 q3;have uw:Hid (L6 Wn (bU ts (i+1)) (L8 s0 ts (i+1))):=A6 q1;have JM:Hid (∀j,j<i+1→Uj s0 ts j):=A6 fun j hj=>by
       by_cases e:j=i
       ·rw[e];exact⟨gy,by omega⟩
       ·exact HG.out j (by omega)
      have dz:Hid ((xM s0 ts (i+1)).length≤bU ts (i+1)*1905000∧(xL s0 ts (i+1)).length≤bU ts (i+1)*1000):=A6 (by
       have hb:=HB.out
       show(xM s0 ts i++_).length≤_∧(xL s0 ts i++_).length≤_
       rw[Be,Be,CF,Nat.add_mul,Nat.add_mul];omega)
      clear q1 q2 q3 q4 fc gy qj CF;go_wp2_with fail
      refine rx.out.mono ?_
      rintro e w9 ⟨col9,v9,rfl,wk,Is,FJ⟩;rw[show Bq _ _=L8 s0 ts (i+1)from ZA.out]at wk
      have ER:=HH.out.feed Is FJ;have ZB:An w w9:=Is.1.to_ext HX.out fun k hk hM=>absurd (HC.out k hM.1) (by omega)
      have HC9:Hid (∀k,col9 k≠0→w.heap.size≤k):=A6 fun k hk=>by
       rcases Nat.lt_or_ge k wr.heap.size with h1|h1
       ·exact HC.out k (Is.2 k h1 hk)
       ·exact Ar HX.out.hsize h1
      obtain⟨B,m,d,sf,ob,Iw,jf,cr,rq⟩:=wk.told;obtain⟨B2,m2,d2,GL,Ix,CD⟩:=wk.vis;rw[ob,GL];obtain⟨A1,n1,c1,xs,F,rfl,ac,ep,hD,hF⟩:=ER.ev;obtain⟨A2,n2,c2,rfl,zl⟩:=ER.vi;have pg:=wk.ses.dom;have al:=dz.out;have e1:(xM s0 ts (i+1)).length=n1+m:=by show(xM s0 ts i++_).length=_;rw[Be,ep,jf]
      have e2:(xL s0 ts (i+1)).length=n2+m2:=by show(xL s0 ts i++_).length=_;rw[Be,zl.ints.len,Ix.ints.len]
      rw[e1,e2]at al;have hbb1:=Ar al.1 (J7k 1905000 iw);have hbb2:=Ar al.2 (J7k 1000 iw);have cm:∀u∈sf,u.oneCell'=true:=Lv.one rq.here (by rw[Iw.len,jf])
      have HZ:=A6 (Au wk (Au ER (Au pg (Au ac (Au ep (Au hD (Au hF (Au rq jf))))))));have OR:=A6 (Au zl Ix);clear al e1 e2 ob GL cr CD ER hD hF ep wk rq jf Is FJ pg zl Ix HH HM HS HC;go_wp2_with (at_builtin;refine Eh rfl (.tmp 46) (.tmp 47) 24 rfl w w.heap.size 48 i1 (.agg #[(0:Int),()]) 2 32 underlying24 hj OP um BM rfl (by decide) A1 n1 c1 xs rfl ac B m d sf rfl Iw.rd cm (by unfold maxLen;omega) (by omega) ZB (Aj _) ZB.hsize ?_)
      intro A3 c3 w10 cv lz yo Iy;obtain⟨wk,ER,pg,tn,ep,hD,hF,rq,jf⟩:=HZ.out;obtain⟨ux,OS⟩:=ER.tells tn ep hD hF rq jf pg cv lz yo;have uy:=wk.alt OS fun k hk hM=>ER.evc k hM
      have Iz:Ba w10 w.heap.size A2 n2 c2 (xL s0 ts i):=Bd.kept OR.out.1 lz (Va OR.out.1 tn (by decide))
      have OT:Ba w10 0 B2 m2 d2 (L8 s0 ts (i+1)).vis:=Bd.kept OR.out.2 lz (Va OR.out.2 tn (by decide))
      have RW:=A6 (Au uy (Au ux Iz));have OU:=fun k hk=>(uy.ses.dom k hk)
      have OV:=A6 OU;clear cv lz yo wk ER pg tn ep hD hF rq jf ux OS uy HZ OR ac Iw cm ZB OU;go_wp2_with (at_builtin;refine Eh rfl (.tmp 49) (.tmp 50) 25 rfl w w.heap.size 3 i0 (.int .i64 0) 1 8 underlying25 hi bm bz az rfl (by decide) A2 n2 c2 _ rfl Iz B2 m2 d2 _ rfl OT.ints (ints_oneCell _ _) (by unfold maxLen;omega) (by omega) Iy (Aj _) Iy.hsize ?_)
      intro A4 c4 w11 fd OW OX OY;obtain⟨uy,ux,ES⟩:=RW.out;obtain⟨OZ,O0⟩:=ux.shows ES OV.out fd OW OX;have ZC:=A6 (uy.alt O0 fun k hk hM=>ux.vic k hM)
      have ZD:Hid (Lq w11 w.heap.size col9 (.slice A3 (n1+m) c3) (.slice A4 (n2+m2) c4) (xM s0 ts (i+1)) (xL s0 ts (i+1))):=A6 OZ;have ZE:=A6 OY;clear fd OW OX OY uy ux ES OZ O0 RW Iz OT Iy OV;go_wp2_with fail
      go_roundw
      case rel=>exact⟨i+1,col9,v9,by omega,by go_num,ZC,uw,HC9,ZE,ZD,dz,JM⟩
      case measure=>simp[intOf];omega
   ·obtain rfl:i=n:=by omega
    go_wp2_with fail
    first
     |exact bodyPost_ret (Lg rfl _ _ _) rfl ⟨HX.out.to_drew,.inl ⟨HF.out,HG.out,p,col,v,_,_,rfl,HM.out.ext (An.drew _),HS.out,HC.out,HH.out.ext (An.drew _)⟩⟩
     |exact bodyPost_ret (Lg rfl _ _ _) rfl ⟨HX.out,.inl ⟨HF.out,HG.out,p,col,v,_,_,rfl,HM.out,HS.out,HC.out,HH.out⟩⟩
 ·have ns:Hid (¬(S9 most W∧∀j,j<n→Uj (Kx most W.toNat) ts j)):=A6 fun h=>hf h.1
  have nk:=A6 (tD (most:=most) (W:=W) (w:=w) (by unfold S9 at hf;omega))
  clear hf;go_enter func10,ntmps10
  go_wp2_with fail
  refine nk.out.mono ?_
  rintro e w1 ⟨x,rfl,hx,he⟩;have GB:(x !=0)=true:=by simpa using hx
  have HX:=A6 he;clear he hx nk;exact I100
structure Cr where
 tx:List Int
 at_:Int
 md:Int
 rl:Nat→List Int
 part:Pt
 hi:Hi
 past:List (List Int×Int)
 first:List Int
 last:Option (Cm×List Int)
 told:List (Int×List Int)
def Ka (c:Cr)(o:Int)(r:List Int)(ra:Int)(vi:List Int):PS:=⟨c.tx,c.at_,c.md,c.rl,0,0,c.part,c.hi,c.past,c.first,c.last,none,[],false,[],o,10,r,ra,false,c.told,vi⟩
def rE (c:Cr)(k:Int)(c':Cr):Prop:=∀o r ra vi,Ez (Ka c o r ra vi) k=Ka c' o r ra vi
def Gc (c:Cr)(ks:List Int)(c':Cr):Prop:=∀o r ra vi,∃o' r' CG vi',Bq (Ka c o r ra vi) ks=Ka c' o' r' CG vi'
theorem Gc.nil (c:Cr):Gc c [] c:=fun o r ra vi=>⟨o,r,ra,vi,rfl⟩
theorem Gc.cons {c c' c'':Cr}(h:rE c k c')(h':Gc c' ks c''):Gc c (k::ks) c'':=fun o r ra vi=>by
 have e1:Bq (Ka c o r ra vi) (k::ks)=Bq (E0 (Ka c o r ra vi) k) ks:=rfl;have e2:E0 (Ka c o r ra vi) k=Jo (Ez (Ka c o r ra vi) k):=if_neg (by show ¬(false=true);decide)
 have e3:Jo (Ka c' o r ra vi)=Ka c' (Qc c'.at_ o 10) (Jm c'.tx (Qc c'.at_ o 10) 10) (c'.at_-Qc c'.at_ o 10) (vi++F0 r ra.toNat (Jm c'.tx (Qc c'.at_ o 10) 10) (c'.at_-Qc c'.at_ o 10).toNat):=rfl;rw[e1,e2,h,e3];exact h' _ _ _ _
def Y6:Nat→List Int:=fun _=>[]
def bT:Hi:=⟨[],5,0,[],[],false⟩
def Qs:List Int:=[97,98,32,99,100]
def xU:Cm:=⟨0,0,100,119,0⟩
theorem wI (rl:Nat→List Int):L2 Qs rl 4 0 0 ⟨0,0,0,48,0⟩=some ⟨Qs,0,0,0,0,rl⟩:=by
 refine fX ⟨⟨⟨by decide,by decide,by decide⟩,⟨by decide,by decide⟩,.inl rfl,.inl rfl⟩,[],.inl ⟨rfl,48,0,rfl,.inl ⟨rfl,⟨?_,0,false,?_,by decide,rfl⟩,rfl,rfl,rfl,rfl⟩⟩⟩
 ·unfold Yk;decide
 ·unfold Yl Ch;exact rfl
theorem dR:qV Qs [99,100] 0 2∧¬(0=Qs.length∧0=([99,100]:List Int).length):=by unfold qV;decide
theorem dN (rl:Nat→List Int):L2 Qs rl 0 0 0 xU=some ⟨[99,100],0,0,0,0,Lm rl 0 false [97,98,32]⟩:=by
 refine fX ⟨⟨⟨by decide,by decide,by decide⟩,⟨by decide,by decide⟩,.inl rfl,.inr (.inl rfl)⟩,[Re Qs [99,100] 0 2],.inl ⟨rfl,119,0,rfl,.inr ⟨by decide,0,3,⟨?_,3,false,?_,by decide,nofun,by decide,by decide⟩,?_⟩⟩⟩
 ·unfold Yk;decide
 ·unfold Yl Ch;exact rfl
 ·refine⟨nofun,⟨nofun,fun _=>⟨0,false,rfl,?_,rfl⟩⟩,.inr ⟨by decide,rfl,?_,.inr ⟨by decide,rfl,?_⟩⟩⟩
  ·exact fun h=>h.elim (show ¬200<(List.take (3-0) (List.drop 0 Qs)).length by decide) fun h=>by cases h.1
  ·exact⟨0,2,dR.1,.inr ⟨dR.2,rfl⟩⟩
  ·show(0:Int)=max 0 (min ((0:Nat):Int) ((([99,100]:List Int).length:Int)-1))
   decide
def c0:Cr:=⟨[],0,1,Y6,Pt.zero,bT,[],[],none,[]⟩
def c5:Cr:=⟨Qs,5,1,Y6,Pt.zero,bT,[],[],none,[]⟩
def c6:Cr:=⟨Qs,4,0,Y6,Pt.zero,bT,[],[],none,[]⟩
def c7:Cr:=⟨Qs,0,0,Y6,Pt.zero,bT,[],[],none,[]⟩
def c8:Cr:=⟨Qs,0,0,Y6,⟨0,0,100,0,0⟩,bT,[],[],none,[]⟩
def c9:Cr:=⟨[99,100],0,0,Lm Y6 0 false [97,98,32],Pt.zero,bT,[(Qs,0)],[],some (xU,[]),[]⟩
theorem J3c:rE c6 48 c7:=fun o r ra vi=>by
 have e:Ez (Ka c6 o r ra vi) 48=doS (Ka c6 o r ra vi) ⟨0,0,0,48,0⟩:=rfl;rw[e];unfold doS;rw[show L2 (Ka c6 o r ra vi).tx (Ka c6 o r ra vi).rl (Ka c6 o r ra vi).at_ (Ka c6 o r ra vi).fk (Ka c6 o r ra vi).fa ⟨0,0,0,48,0⟩=some ⟨Qs,0,0,0,0,Y6⟩from wI Y6]
 rfl
theorem J3b:rE c8 119 c9:=fun o r ra vi=>by
 have e:Ez (Ka c8 o r ra vi) 119=doS (Ka c7 o r ra vi) xU:=rfl;rw[e];unfold doS;rw[show L2 (Ka c7 o r ra vi).tx (Ka c7 o r ra vi).rl (Ka c7 o r ra vi).at_ (Ka c7 o r ra vi).fk (Ka c7 o r ra vi).fa xU=some ⟨[99,100],0,0,0,0,Lm Y6 0 false [97,98,32]⟩from dN Y6]
 rfl
theorem J2q:Gc c0 [97,98,32,99,100,27,48,100,119] c9:=
 Gc.cons (c':=⟨[97],1,1,Y6,Pt.zero,bT,[],[],none,[]⟩) (fun _ _ _ _=>rfl)<|
 Gc.cons (c':=⟨[97,98],2,1,Y6,Pt.zero,bT,[],[],none,[]⟩) (fun _ _ _ _=>rfl)<|
 Gc.cons (c':=⟨[97,98,32],3,1,Y6,Pt.zero,bT,[],[],none,[]⟩) (fun _ _ _ _=>rfl)<|
 Gc.cons (c':=⟨[97,98,32,99],4,1,Y6,Pt.zero,bT,[],[],none,[]⟩) (fun _ _ _ _=>rfl)<|
 Gc.cons (c':=c5) (fun _ _ _ _=>rfl)<|
 Gc.cons (c':=c6) (fun _ _ _ _=>rfl)<|
 Gc.cons J3c<|
 Gc.cons (c':=c8) (fun _ _ _ _=>rfl)<|
 Gc.cons J3b (Gc.nil _)
def d0:Cr:={ c9 with told:=[] }
def d1:Cr:=⟨Qs,0,0,Lm Y6 0 false [97,98,32],Pt.zero,bT,[],[],some (xU,[]),[]⟩
theorem J2p:Gc c9 [117] d1:=Gc.cons (fun _ _ _ _=>rfl) (Gc.nil _)
def d2:Cr:=⟨[99,100],0,0,Lm (Lm Y6 0 false [97,98,32]) 0 false [97,98,32],Pt.zero,bT,[(Qs,0)],[],some (xU,[]),[]⟩
def d3:Cr:=⟨[],0,1,Lm (Lm Y6 0 false [97,98,32]) 0 false [97,98,32],Pt.zero,⟨[[99,100]],5,1,[],[],false⟩,[],[],some (xU,[]),[(2,[99,100])]⟩
theorem J3a:rE d1 46 d2:=fun o r ra vi=>by
 have e:Ez (Ka d1 o r ra vi) 46=Dv (Ka d1 o r ra vi) 0:=rfl;rw[e];unfold Dv;rw[show(Ka d1 o r ra vi).last=some (xU,[])from rfl]
 simp only;rw[show L2 (Ka d1 o r ra vi).tx (Ka d1 o r ra vi).rl (Ka d1 o r ra vi).at_ (Ka d1 o r ra vi).fk (Ka d1 o r ra vi).fa (Cf xU 0)=some ⟨[99,100],0,0,0,0,Lm (Lm Y6 0 false [97,98,32]) 0 false [97,98,32]⟩from dN _]
 rfl
theorem J2z:rE d2 13 d3:=fun o r ra vi=>by
 have e:Ez (Ka d2 o r ra vi) 13=Nt (Ka d2 o r ra vi):=rfl;have ok:Uw bT:=⟨by decide,by decide,by decide,by decide,by decide,(fun x hx=>by cases hx),⟨G3.nil,B8 _⟩,B8 _⟩
 have ea:Pi bT [99,100]=⟨[[99,100]],5,1,[],[],false⟩:=by
  unfold Pi;rw[if_pos ⟨ok.nobad,ok.nolong,by decide⟩]
  rfl
 rw[e];unfold Nt;rw[show Pi (Ka d2 o r ra vi).hi (Ka d2 o r ra vi).tx=_ from ea]
 rfl
theorem J2o:Gc d1 [46,13] d3:=Gc.cons J3a (Gc.cons J2z (Gc.nil _))
def lW (w:World)(A:Option Addr)(n c:Nat)(evs:List (Int×List Int)):Prop:=∃xs,Rd w 2 A n c xs∧evs.length=n∧∀i,i<n→∃S q r,xs[i*2]? = some (.int .i64 (gV evs i).1)∧xs[i*2+1]? = some (.slice S q r)∧Bj w S q r (gV evs i).2
theorem lW.ext (h:lW w A n c evs)(he:An w w'):lW w' A n c evs:=by
 obtain⟨xs,h1,h2,h3⟩:=h;exact⟨xs,Rd.ext h1 he,h2,fun i hi=>by obtain⟨S,q,r,k1,k2,k3⟩:=h3 i hi;exact⟨S,q,r,k1,k2,k3.ext he⟩⟩
theorem EvR.v {E:Value}(h:EvR w b E evs):∃A n c,E=.slice A n c∧lW w A n c evs:=by
 obtain⟨A,n,c,xs,rfl,h1,h2,h3⟩:=h;exact⟨A,n,c,rfl,xs,Bd.rd h1,h2,fun i hi=>by obtain⟨y,k1,k2,S,q,r,rfl,k3,_⟩:=h3 i (by omega);exact⟨S,q,r,k1,k2,k3.ints⟩⟩
theorem lW.at_ (h:lW w A n c evs){k:Nat}(hk:k<n):
 ∃ad S q r,A=some ad∧w.cell? (ad.add (k*2))=some (.int .i64 (gV evs k).1)∧w.cell? ⟨(ad.add (k*2)).block,(ad.add (k*2)).off+1,none⟩=some (.slice S q r)∧Bj w S q r (gV evs k).2:=by
 obtain⟨xs,h1,h2,h3⟩:=h;obtain⟨ad,hA,hc⟩:=h1.at_ hk;obtain⟨S,q,r,k1,k2,k3⟩:=h3 k hk;refine⟨ad,S,q,r,hA,hc _ _ k1,?_,k3⟩
 exact I141
end
