/-
  Part of the proof: ZUtfA.
-/
import Derived.Test.YtkaefdmhlmlhbaaGreatZUtfH
import Derived.Test.YtkaefdmhlmlhbaaGreatZUtfPut
import Derived.Laws.RangeAny
import Derived.Deep.RegionHeld3
import Derived.Deep.RegionLaw
import Derived.Laws.BytesString
set_option maxRecDepth 100000
set_option maxHeartbeats 16000000
set_option linter.unusedVariables false
set_option linter.unusedSimpArgs false
namespace Go.Proofs.YtkaefdmhlmlhbaaGreat
open Go.RowKit
open _root_.List renaming getElem?_cons_succ→Ag,getElem?_cons_zero→Af,getElem?_eq_getElem→Bw,getElem?_toArray→Ah,length_append→Bg,length_drop→Cy,length_map→Cs
open Value renaming slice→Ak
open _root_.Nat renaming le_refl→Aj,lt_succ_self→C6
theorem Z4s {f:Nat}{r:List Nat}(h0:r.length≠0)(h:H8 r≠0):Z4e (f+1) r=[]∧Z4d (f+1) r=H8 r∧Z4f (f+1) r=0:=by
 have hn:r.length=0∨H8 r≠0:=.inr h;exact⟨by rw[Z4e,if_pos hn],by rw[Z4d,if_neg h0,if_pos h],by rw[Z4f,if_pos hn]⟩
theorem Z4t {f:Nat}{r:List Nat}(h0:r.length≠0)(h:H8 r=0):Z4e (f+1) r=(Hb r:Int)::Z4e f (r.drop (Ka r))∧Z4d (f+1) r=Z4d f (r.drop (Ka r))∧Z4f (f+1) r=Ka r+Z4f f (r.drop (Ka r)):=by
 have hn:¬(r.length=0∨H8 r≠0):=by rw[h];simp only[ne_eq,not_true_eq_false,or_false];exact h0
 exact⟨by rw[Z4e,if_neg hn],by rw[Z4d,if_neg h0,if_neg (by rw[h];simp)],by rw[Z4f,if_neg hn]⟩
theorem Z6i {f:Nat}{r:List Nat}(h0:r.length=0):Z4e f r=[]∧Z4d f r=0∧Z4f f r=0:=by
 cases f with
 |zero=>exact⟨rfl,rfl,rfl⟩
 |succ f=>exact⟨by rw[Z4e,if_pos (.inl h0)],by rw[Z4d,if_pos h0],by rw[Z4f,if_pos (.inl h0)]⟩
theorem Z5w {r:List Nat}(hb:∀x∈r,x<256)(h:H8 r=0):1≤Ka r∧Ka r≤r.length:=by
 obtain⟨h1,h2,m,h3⟩:=Z5p hb h;have hp:=Yq (Hb r);have:=congrArg List.length h3;rw[Bg]at this;omega
theorem Z6o {s:ByteArray}{w:World}(hs:s.size≤9223372036854775807)(hM:(Z4e s.size (Ao s)).length≤17592186043904):
 Calls Tryz.prog 17 #[.string s] w fun e w'=>∃A q c l,e=.returned (.tuple #[.slice A q c,.int .i64 (Z4f s.size (Ao s)),.int .i64 (Z4d s.size (Ao s))])∧Bj w' A q c l∧
  (Z4d s.size (Ao s)=0→l=Z4e s.size (Ao s))∧(Z4d s.size (Ao s)≠0→l=[])∧Am w w':=by
 obtain⟨i0,hi,hz0,hz1,hz2⟩:=info_parts C8;have HN:=A6 (Fi s);have HB:=A6 (Te s);have HG:Hid (∀(k:Nat) (wq:World),Calls Tryz.prog 38 #[.string (s.extract k s.size)] wq fun e w'=>e=.returned (.tuple #[.int .i64 (Hb ((Ao s).drop k)),.int .i64 (Ka ((Ao s).drop k)),.int .i64 (H8 ((Ao s).drop k))])∧wq=w'):=
  A6 fun k wq=>by rw[←Z5j];exact Q2 _ _
 have HL0:Hid (Z4e s.size (Ao s)=[]++Z4e s.size ((Ao s).drop 0)):=A6 (by rw[List.drop_zero];rfl)
 have HW0:Hid (Z4f s.size (Ao s)=0+Z4f s.size ((Ao s).drop 0)):=A6 (by rw[List.drop_zero,Nat.zero_add])
 have HE0:Hid (Z4d s.size (Ao s)=Z4d s.size ((Ao s).drop 0)):=A6 (by rw[List.drop_zero])
 generalize hLL:Z4e s.size (Ao s)=LL at*;generalize hWW:Z4f s.size (Ao s)=WW at*;generalize hEE:Z4d s.size (Ao s)=EE at*;clear hLL hWW hEE;have HMx:=A6 hM;clear hM;go_enter Tryz.func17,Tryz.ntmps17
 go_wp2_with fail
 go_loopw [5,6] (fun v i wr=>∃(k f q c:Nat) (A:Option Addr) (out:List Int),i=.int .i64 k∧v=.slice A q c∧Ay wr w.heap.size A q c out∧k≤s.size∧Hid (s.size-k≤f)∧
  Hid (LL=out++Z4e f ((Ao s).drop k))∧Hid (WW=k+Z4f f ((Ao s).drop k))∧Hid (EE=Z4d f ((Ao s).drop k))∧Am w wr) (fun _ i _=>s.size-(intOf i).toNat)
 case atStart=>exact⟨0,s.size,0,0,none,[],rfl,rfl,Ay.nil _ _,by omega,A6 (by omega),HL0,HW0,HE0,Am.refl _⟩
 case round=>
  clear HL0 HW0 HE0;obtain⟨k,f,q,c,A,out,rfl,rfl,hown,hks,hf,hL,hW,hE,he⟩:=hrel;by_cases hlt:k<s.size
  ·have hr0:((Ao s).drop k).length≠0:=by rw[Cy,HN.out];omega
   obtain⟨f,rfl⟩:∃f',f=f'+1:=⟨f-1,by have:=hf.out;omega⟩
   by_cases hg:H8 ((Ao s).drop k)=0
   ·obtain⟨a1,a2,a3⟩:=Z4t (f:=f) hr0 hg
    obtain⟨g1,g2⟩:=Z5w (fun x hx=>HB.out x (List.mem_of_mem_drop hx)) hg
    rw[Cy,HN.out]at g2;have HC:=A6 (HG.out k);rw[hg]at HC;have hL':Hid (LL=(out++[(Hb ((Ao s).drop k):Int)])++Z4e f ((Ao s).drop (k+Ka ((Ao s).drop k)))):=A6 (by rw[hL.out,a1,List.drop_drop];simp)
    have hW':Hid (WW=(k+Ka ((Ao s).drop k))+Z4f f ((Ao s).drop (k+Ka ((Ao s).drop k)))):=A6 (by rw[hW.out,a3,List.drop_drop];omega)
    have hE':Hid (EE=Z4d f ((Ao s).drop (k+Ka ((Ao s).drop k)))):=A6 (by rw[hE.out,a2,List.drop_drop])
    have hq:q+1≤17592186043904:=by
     have e1:=congrArg List.length hL'.out;rw[Bg,Bg,List.length_singleton]at e1;have e2:=hown.ints.len;have e3:=HMx.out;omega
    clear hL hW hE a1 a2 a3 hg hr0;generalize Hb ((Ao s).drop k)=gc at*;generalize Ka ((Ao s).drop k)=gw at*;go_wp2_with fail
    refine(HC.out _).mono ?_
    rintro e w' ⟨rfl,rfl⟩;clear HC;go_wp2_with (at_builtin;refine Cl rfl (.tmp 26) (.tmp 28) 25 rfl w w.heap.size 3 i0 (.int .i64 0) 1 8 Tryz.underlying25 hi hz0 hz1 hz2 rfl (by decide) A q c _ rfl hown #[.int .i64 gc] rfl ?_ rfl ?_ ?_ he (Nat.le_refl _) he.hsize ?_)
    ·rfl
    ·unfold maxLen;omega
    ·omega
    ·intro A2 c2 w2 hown2 hgr hor he2
     have hown3:Ay w2 w.heap.size A2 (q+1) c2 (out++[(gc:Int)]):=by simpa[Ay]using hown2
     clear hown hown2 hgr hor he;go_wp2_with fail
     go_roundw
     case rel=>exact⟨k+gw,f,q+1,c2,A2,_,by go_num,rfl,hown3,by omega,A6 (by have:=hf.out;omega),hL',hW',hE',he2⟩
     case measure=>simp[intOf];omega
   ·obtain⟨a1,a2,a3⟩:=Z4s (f:=f) hr0 hg
    have HC:=A6 (HG.out k);have hW':Hid (WW=k):=A6 (by rw[hW.out,a3,Nat.add_zero])
    have hE':Hid (EE=H8 ((Ao s).drop k)):=A6 (by rw[hE.out,a2])
    have hne:((H8 ((Ao s).drop k):Int) !=0)=true:=by simp;omega
    have hX:Hid (EE≠0):=A6 (by rw[hE'.out];exact hg)
    clear hL hW hE a1 a2 a3 hg hr0;generalize H8 ((Ao s).drop k)=ge at*;generalize Hb ((Ao s).drop k)=gc at*;generalize Ka ((Ao s).drop k)=gw at*;go_wp2_with fail
    refine(HC.out _).mono ?_
    rintro e w' ⟨rfl,rfl⟩;clear HC;go_wp2_with fail
    go_ret3
    refine⟨none,0,0,[],?_,Bj.none_ _,fun h=>absurd h hX.out,fun _=>rfl,he⟩
    rw[hW'.out,hE'.out];rfl
  ·obtain rfl:k=s.size:=by omega
   have hr0:((Ao s).drop s.size).length=0:=by rw[Cy,HN.out];omega
   obtain⟨a1,a2,a3⟩:=Z6i (f:=f) hr0;have hL':Hid (out=LL):=A6 (by rw[hL.out,a1,List.append_nil])
   have hW':Hid (WW=s.size):=A6 (by rw[hW.out,a3,Nat.add_zero])
   have hE':Hid (EE=0):=A6 (by rw[hE.out,a2])
   clear hL hW hE a1 a2 a3 hr0;go_wp2_with fail
   go_ret3
   refine⟨A,q,c,out,?_,hown.ints,fun _=>hL'.out,fun h=>absurd hE'.out h,he⟩
   rw[hW'.out,hE'.out];rfl
theorem Z1k {l:List Int}{k:Nat}(h:k<l.length):gI l k∈l:=by
 unfold gI;rw[List.getElem?_eq_getElem h];exact List.getElem_mem h
theorem Wd (l:List Nat):(Fx l).size=l.length:=by
 show(Fx l).data.size=_
 unfold Fx;simp
def bv (b:Nat):Value:=.int .u8 b
theorem Q7e:(Tryz.prog.info? 5).map (fun i=>(i.zero,i.size,i.bytes))=some (some (.int .u8 0),1,1):=by kernel_rfl
theorem J7c (b:Nat)(w:World):Calls Tryz.prog 155 #[.int .u8 b] w fun e w'=>e=.returned (.tuple #[.int .u8 (T5 b),.int .u8 (T6 b)])∧w=w':=by
 by_cases c1:b=224
 ·subst c1
  exact I14
 by_cases c2:b=237
 ·subst c2
  exact I14
 by_cases c3:b=240
 ·subst c3
  exact I14
 by_cases c4:b=244
 ·subst c4
  exact I14
 have e1:T5 b=128:=by unfold T5;rw[if_neg c1,if_neg c3]
 have e2:T6 b=191:=by unfold T6;rw[if_neg c2,if_neg c4]
 rw[e1,e2];have k1:((b:Int)==224)=false:=by simp;omega
 have k2:((b:Int)==237)=false:=by simp;omega
 have k3:((b:Int)==240)=false:=by simp;omega
 have k4:((b:Int)==244)=false:=by simp;omega
 clear c1 c2 c3 c4 e1 e2;exact I14
theorem Ni (b:Nat)(w:World):Calls Tryz.prog 123 #[.int .u8 b] w fun e w'=>e=.returned (.int .i64 (J7 b))∧w=w':=by
 have key:∀z:Nat,J7 b=z→J7 b=z:=fun _ h=>h
 by_cases c1:b<128
 ·rw[wh1.2 c1]
  exact I13
 by_cases c2:b<194
 ·rw[show J7 b=0 by unfold J7;rw[if_neg c1,if_neg (by omega),if_neg (by omega),if_neg (by omega)]]
  have k1:¬(194:Int)≤b:=by omega
  have k2:¬(224:Int)≤b:=by omega
  have k3:¬(240:Int)≤b:=by omega
  exact I13
 by_cases c3:b<224
 ·rw[wh2.2 ⟨by omega,by omega⟩]
  have k1:(194:Int)≤b:=by omega
  have k2:(b:Int)≤223:=by omega
  exact I13
 by_cases c4:b<240
 ·rw[wh3.2 ⟨by omega,by omega⟩]
  have k1:(194:Int)≤b:=by omega
  have k2:¬(b:Int)≤223:=by omega
  have k3:(224:Int)≤b:=by omega
  have k4:(b:Int)≤239:=by omega
  exact I13
 by_cases c5:b<245
 ·rw[wh4.2 ⟨by omega,by omega⟩]
  have k1:(194:Int)≤b:=by omega
  have k2:¬(b:Int)≤223:=by omega
  have k3:(224:Int)≤b:=by omega
  have k4:¬(b:Int)≤239:=by omega
  have k5:(240:Int)≤b:=by omega
  have k6:(b:Int)≤244:=by omega
  exact I13
 ·rw[show J7 b=0 by unfold J7;rw[if_neg c1,if_neg (by omega),if_neg (by omega),if_neg (by omega)]]
  have k1:(194:Int)≤b:=by omega
  have k2:¬(b:Int)≤223:=by omega
  have k3:(224:Int)≤b:=by omega
  have k4:¬(b:Int)≤239:=by omega
  have k5:(240:Int)≤b:=by omega
  have k6:¬(b:Int)≤244:=by omega
  exact I13
theorem Z5 {w:World}{A:Option Addr}{n c:Nat}{ah:List Nat}(h:Rd w 1 A n c (ah.map bv)){k:Nat}(hk:k<n):∃ad,A=some ad∧w.cell? (ad.add k)=some (.int .u8 (gN ah k)):=by
 obtain⟨ad,e,hc⟩:=h.at_ hk;have hl:ah.length=n:=by have:=h.len;rw[Cs]at this;omega
 refine⟨ad,e,hc k _ ?_⟩
 rw[List.getElem?_map,Bw (by omega)]
 simp[bv,gN,Bw (show k<ah.length by omega)]
theorem Yp {ah:List Nat}{b:Nat}{A:Option Addr}{n c:Nat}{w:World}(h:Rd w 1 A n c (ah.map bv)):
 Calls Tryz.prog 121 #[.slice A n c,.int .u8 b] w fun e w'=>e=.returned (.bool (decide (Ea ah b)))∧w=w':=by
 have hl:ah.length=n:=by have:=h.len;rw[Cs]at this;omega
 have hnc:=h.ncap;have hcm:=h.nmax;unfold maxLen at hcm;by_cases h1:n=1
 ·subst h1
  obtain⟨ad,rfl,hc⟩:=Z5 h (k:=0) (by omega)
  rw[E5]at hc;have HS:=A6 (J7c (gN ah 0));have HE:Hid (Ea ah b↔T5 (gN ah 0)≤b∧b≤T6 (gN ah 0)):=A6 (by unfold Ea;rw[if_pos hl])
  clear h hl;generalize gN ah 0=a at*;generalize T5 a=x at*;generalize T6 a=y at*;go_enter Tryz.func121,Tryz.ntmps121
  go_wp2_with fail
  refine(HS.out _).mono ?_
  rintro e w' ⟨rfl,rfl⟩;by_cases k1:x≤b
  ·have k1i:(x:Int)≤(b:Int):=by omega
   by_cases k2:b≤y
   ·have k2i:(b:Int)≤(y:Int):=by omega
    have hE:=A6 (decide_eq_true (HE.out.2 ⟨k1,k2⟩));exact I58
   ·have k2i:¬(b:Int)≤(y:Int):=by omega
    have hE:=A6 (decide_eq_false (fun hh=>k2 (HE.out.1 hh).2))
    exact I58
  ·have k1i:¬(x:Int)≤(b:Int):=by omega
   have hE:=A6 (decide_eq_false (fun hh=>k1 (HE.out.1 hh).1))
   exact I58
 ·have HE:Hid (Ea ah b↔128≤b∧b≤191):=A6 (by unfold Ea;rw[if_neg (by omega)])
  have hn1:((n:Int)==1)=false:=by simp;omega
  clear h;by_cases k1:128≤b
  ·have k1i:(128:Int)≤(b:Int):=by omega
   by_cases k2:b≤191
   ·have k2i:(b:Int)≤191:=by omega
    have hE:=A6 (decide_eq_true (HE.out.2 ⟨k1,k2⟩));exact I29
   ·have k2i:¬(b:Int)≤191:=by omega
    have hE:=A6 (decide_eq_false (fun hh=>k2 (HE.out.1 hh).2))
    exact I29
  ·have k1i:¬(128:Int)≤(b:Int):=by omega
   have hE:=A6 (decide_eq_false (fun hh=>k1 (HE.out.1 hh).1))
   exact I29
theorem B8.apart {w:World}{base base' e e' z z' n n' c c':Nat}{A A':Option Addr}{xs ys:List Value}(h:B8 w base e z A n c xs)(h':B8 w base' e' z' A' n' c' ys)(hne:e≠e'):
 (Ak A n c).ownBlock=none∨(Ak A n c).ownBlock≠(Ak A' n' c').ownBlock:=by
 rcases h.2 with⟨hv,_⟩|⟨g,cap,cur,hv,_,hg,_⟩
 ·left;rw[hv];rfl
 ·right
  rcases h'.2 with⟨hv',_⟩|⟨g',cap',cur',hv',_,hg',_⟩
  ·rw[hv,hv'];simp[Value.ownBlock]
  ·rw[hv,hv']
   intro e;simp[Value.ownBlock]at e;subst e;rw[hg]at hg';injection hg' with hg';injection hg' with _ h2;exact hne h2
def F0 (w:World)(g:Nat)(m:Xp):Prop:=
 ∃A n c O q d,Ap w g 134 #[.slice A n c,.slice O q d]∧B8 w (g+1) 5 1 A n c (m.ah.map bv)∧Ay w (g+1) O q d m.out
theorem F0.ext {w w':World}{g:Nat}{m:Xp}(h:F0 w g m)(he:Am w w'):F0 w' g m:=by
 obtain⟨A,n,c,O,q,d,h1,h2,h3⟩:=h;exact⟨A,n,c,O,q,d,h1.ext he,B8.ext h2 he,Ay.ext h3 he⟩
theorem Mf {w:World}{n c:Nat}{A:Option Addr}{ah:List Nat}(hr:Rd w 1 A n c (ah.map bv)):
 (convert 121 9 (.slice A n c)).run Tryz.prog w=.ok (.string (Fx ah)) w:=by
 have hl:ah.length=n:=by have:=hr.len;rw[Cs]at this;omega
 have hfold:∀(l:List Nat) (s:ByteArray),(l.map (fun b:Nat=>(b:Int))).foldl (fun r n=>r.push (UInt8.ofNat n.toNat)) s=s++Fx l:=by
  intro l
  induction l with
  |nil=>intro s;have:Fx []=ByteArray.empty:=rfl;rw[this];simp
  |cons b l ih=>
   intro s;rw[List.map_cons,List.foldl_cons,ih];apply ByteArray.ext
   simp[Fx,ByteArray.data_append]
 rw[run_convert_bytes_string w _ _ 5 _ _ _ Tryz.underlying121 Tryz.underlying5 Tryz.underlying9];cases A with
 |none=>
  have h0:n=0:=by
   rcases Nat.eq_zero_or_pos n with h|h
   ·exact h
   ·obtain⟨ad,e,_⟩:=hr.at_ (k:=0) h;cases e
  subst h0;obtain rfl:ah=[]:=List.length_eq_zero_iff.1 hl
  rfl
 |some a=>
  have hc:∀j,j<n→w.cell? (a.add j)=some (.int .u8 ((ah.map (fun b:Nat=>(b:Int))).getD j 0)):=by
   intro j hj;obtain⟨a',e,hc⟩:=Z5 hr hj;injection e with e;subst e;rw[hc];simp[gN,List.getD,List.getElem?_eq_getElem (show j<ah.length by omega)]
  have hload:=run_loadCells (P:=Tryz.prog) w a n (fun j=>.int .u8 ((ah.map (fun b:Nat=>(b:Int))).getD j 0)) hc
  have hrange:=range_map_take (Value.int .u8) (ah.map (fun b:Nat=>(b:Int))) n (by rw[Cs];omega)
  rw[List.take_of_length_le (by rw[Cs];omega)]at hrange
  rw[run_bytesToString w a n c (ah.map (fun b:Nat=>(b:Int))) (by rw[hload,hrange]),hfold]
  simp
theorem J9j {w0 w:World}{g:Nat}{m:Xp}(h:F0 w g m)(he:Am w0 w)(hg:w0.heap.size≤g)(hq:m.out.length≤1000000):
 Calls Tryz.prog 122 #[.pointer (some ⟨g,0,none⟩)] w fun e w'=>e=.returned (.tuple #[])∧F0 w' g (Xw m)∧Am w0 w':=by
 obtain⟨i0,hi,hz0,hz1,hz2⟩:=info_parts C8;have HM:=A6 h;obtain⟨A,n,c,O,q,d,hb,ha,ho⟩:=h;have hl:m.ah.length=n:=by have:=(B8.rd ha).len;rw[Cs]at this;omega
 have hql:m.out.length=q:=ho.ints.len;have k0:=hb.cell 0;have k1:=hb.cell 1;have f0:=hb.frozen 0;have f1:=hb.frozen 1;simp only[Ah,Af,Ag]at k0 k1;have hlt:=hb.lt;by_cases h0:n=0
 ·have HE:Hid (Xw m=m):=A6 (by unfold Xw;rw[if_pos (by omega)])
  subst h0;clear hb ha ho hl hql f0 f1;go_enter Tryz.func122,Tryz.ntmps122
  go_wp2_with fail
  go_end0
  exact⟨rfl,by rw[HE.out];exact HM.out,he⟩
 ·have HE:Hid (Xw m=⟨[],m.out++[65533]⟩):=A6 (by unfold Xw;rw[if_neg (by omega)])
  have hn0:0<n:=by omega
  have hq2:q≤1000000:=by omega
  have a1:=Am.cell (Am.alloc w (.cells #[.int .i64 65533] 3)) k1;have HB:=A6 hb;have HO:=A6 ho;clear hb ha ho hl hql hq h0 HM;go_enter Tryz.func122,Tryz.ntmps122
  have hown:=HO.out;go_wp2_with (at_builtin;refine Cl rfl (.tmp 12) (.tmp 13) 25 rfl w0 (g+1) 3 i0 (.int .i64 0) 1 8 Tryz.underlying25 hi hz0 hz1 hz2 rfl (by decide) O q d _ rfl hown #[.int .i64 65533] rfl ?_ rfl ?_ ?_ he (by omega) (by omega) ?_)
  ·rfl
  ·unfold maxLen;omega
  ·omega
  ·intro O2 d2 w3 hO2 hgr hor hx3
   have hne:(Ak O q d).ownBlock≠some g:=fun e=>by have:=(B8.blk HO.out g e).1;omega
   have hb3:=HB.out.grown hgr (fun e=>hne e.symm)
   have c0:=hb3.cell 0;have c1:=hb3.cell 1;have f0:=hb3.frozen 0;have f1:=hb3.frozen 1;simp only[Ah,Af,Ag]at c0 c1;have hb4:Ap (w3.setCell ⟨g,1,none⟩ (.slice O2 (q+1) d2)) g 134 #[.slice A n c,.slice O2 (q+1) d2]:=by simpa using hb3.set_ 1 (.slice O2 (q+1) d2)
   have f4:=hb4.frozen 0;have c4:=hb4.cell 0;simp only[Ah,Af,Ag]at c4;have hb5:Ap ((w3.setCell ⟨g,1,none⟩ (.slice O2 (q+1) d2)).setCell ⟨g,0,none⟩ (.slice none 0 0)) g 134 #[.slice none 0 0,.slice O2 (q+1) d2]:=by simpa using hb4.set_ 0 (.slice none 0 0)
   have hO5:Ay ((w3.setCell ⟨g,1,none⟩ (.slice O2 (q+1) d2)).setCell ⟨g,0,none⟩ (.slice none 0 0)) (g+1) O2 (q+1) d2 (m.out++[65533]):=by
    exact I112
   have hE5:=(hx3.setCell (p:=⟨g,1,none⟩) hg (.slice O2 (q+1) d2)).setCell (p:=⟨g,0,none⟩) hg (.slice none 0 0);have HF:Hid (F0 ((w3.setCell ⟨g,1,none⟩ (.slice O2 (q+1) d2)).setCell ⟨g,0,none⟩ (.slice none 0 0)) g ⟨[],m.out++[65533]⟩):=A6 ⟨none,0,0,O2,q+1,d2,hb5,B8.nil _ _ _ _,hO5⟩;have HX:=A6 hE5;clear hO2 hgr hor hx3 hb3 hb4 hb5 hO5 hE5 hown;go_wp2_with fail
   go_end0
   exact⟨rfl,by rw[HE.out];exact HF.out,HX.out⟩
theorem Y9 {ah:List Nat}(h:Xo ah):ah.length≤3:=by
 match ah,h with
 |[],_=>simp
 |[a],_=>simp
 |[a,b],_=>simp
 |[a,b,c],_=>simp
theorem Yh {w0 w:World}{g:Nat}{ah:List Nat}{out:List Int}{b:Nat}(h:F0 w g ⟨ah,out⟩)(hp:Xo ah)(HltA:Hid (∀x∈ah,x<256))(hb256:b<256)(he:Am w0 w)(hg:w0.heap.size≤g)(hq:out.length≤1000000):
 Calls Tryz.prog 78 #[.pointer (some ⟨g,0,none⟩),.int .u8 b] w fun e w'=>e=.returned (.tuple #[])∧F0 w' g (Jw ⟨ah,out⟩ b)∧Am w0 w':=by
 obtain⟨i0,hi,hz0,hz1,hz2⟩:=info_parts C8;obtain⟨i8,hi8,hy0,hy1,hy2⟩:=info_parts Q7e;have hal:=Y9 hp;have HM:=A6 h;obtain⟨A,n,c,O,q,d,hb,ha,ho⟩:=h;have hl:ah.length=n:=by have:=(B8.rd ha).len;rw[Cs]at this;simp at this;omega
 have hql:out.length=q:=ho.ints.len;have hqb:q≤1000000:=by omega
 have hnc:=(B8.rd ha).ncap;have hcm:=(B8.rd ha).nmax;unfold maxLen at hcm;have HQ:Hid (out.length≤1000000):=A6 (by omega)
 clear hp hql hq;by_cases h0:n=0
 ·subst h0
  obtain rfl:ah=[]:=List.length_eq_zero_iff.1 hl;have HP:Hid (Jw ⟨[],out⟩ b=Js ⟨[],out⟩ b):=A6 (Nw out b);have heW:=he;have HA0:=A6 ha;have HAZ:Hid (∀(w3:World) (row:Option Nat),w.grownBy w3 row→((Ak A 0 c).ownBlock=none∨(Ak A 0 c).ownBlock≠row)→B8 w3 (g+1) 5 1 A 0 c []):=A6 fun w3 row h1 h2=>B8.kept ha h1 h2
  clear hl HM he;have k0:=hb.cell 0;have k1:=hb.cell 1;have f0:=hb.frozen 0;have f1:=hb.frozen 1;simp only[Ah,Af,Ag]at k0 k1;go_enter Tryz.func78,Tryz.ntmps78
  have HW:=A6 (Ni b);by_cases hw0:J7 b=0
  ·rw[hw0]at HW
   have HR:Hid (Jw ⟨[],out⟩ b=⟨[],out++[65533]⟩):=A6 (by rw[HP.out];unfold Js;exact if_pos ⟨rfl,hw0⟩)
   have hbl:=hb.lt;have HBB:=A6 hb;have HOO:=A6 ho;clear hw0 HP hb ha;go_wp2_with fail
   refine(HW.out _).mono ?_
   rintro e w' ⟨rfl,rfl⟩;go_wp2_with (at_builtin;refine Cl rfl (.tmp 39) (.tmp 40) 25 rfl w0 (g+1) 3 i0 (.int .i64 0) 1 8 Tryz.underlying25 hi hz0 hz1 hz2 rfl (by decide) O q d _ rfl ho #[.int .i64 65533] rfl ?_ rfl ?_ ?_ heW (by omega) hbl ?_)
   ·rfl
   ·unfold maxLen;omega
   ·omega
   ·have N0:=trivial;exact K42
  ·have N0:=trivial;exact K8

 ·have hn1:0<n:=by omega
  have hne:ah≠[]:=fun e=>by rw[e]at hl;simp at hl;omega
  have HFt:=A6 (fun wq he'=>Yp (b:=b) (w:=wq) (Rd.ext (B8.rd ha) (w':=wq) he'))
  by_cases hf:Ea ah b
  ·have HP:Hid (Jw ⟨ah,out⟩ b=Js ⟨ah,out⟩ b):=A6 (by unfold Jw;rw[if_neg (fun hh=>hh.2 hf)])
   have HFc:=A6 (HFt.out w (Am.refl w));rw[decide_eq_true hf]at HFc;have hnb:¬(ah.length=0∧J7 b=0):=fun h=>by omega
   have heW:=he;clear hf HFt HM he hne h0;have k0:=hb.cell 0;have k1:=hb.cell 1;have f0:=hb.frozen 0;have f1:=hb.frozen 1;simp only[Ah,Af,Ag]at k0 k1;go_enter Tryz.func78,Tryz.ntmps78
   go_wp2_with fail
   refine HFc.out.mono ?_
   rintro e w' ⟨rfl,rfl⟩;have hn3:n≤3:=by omega
   clear HFc hl;have Hfull:Hid ((ah++[b]).length=J7 (gN (ah++[b]) 0)→Jw ⟨ah,out⟩ b=⟨[],out++[(Hb (ah++[b]):Int)]⟩):=A6 fun h=>by
    rw[HP.out];unfold Js;rw[if_neg hnb];exact if_pos h
   have Hpart:Hid (¬(ah++[b]).length=J7 (gN (ah++[b]) 0)→Jw ⟨ah,out⟩ b=⟨ah++[b],out⟩):=A6 fun h=>by
    rw[HP.out];unfold Js;rw[if_neg hnb];exact if_neg h
   have Hlt:Hid (∀x∈ah++[b],x<256):=A6 (by
    intro x hx;rcases List.mem_append.1 hx with hx|hx
    ·exact HltA.out x hx
    ·obtain rfl:=List.mem_singleton.1 hx;exact hb256)
   have hap:=B8.apart ho ha (by decide)
   have hnA:(Ak A n c).ownBlock≠some g:=fun e=>by have:=(B8.blk ha g e).1;omega
   have hbl:=hb.lt;have HBB:=A6 hb;have HOO:=A6 ho;have HAP:=A6 hap;have HNA:=A6 hnA;clear hap hnA hb ho HP hnb;go_wp2_with (at_builtin;refine Cl rfl (.tmp 48) (.tmp 50) 121 rfl w0 (g+1) 5 i8 (.int .u8 0) 1 1 Tryz.underlying121 hi8 hy0 hy1 hy2 rfl (by decide) A n c _ rfl ha #[.int .u8 b] rfl ?_ rfl ?_ ?_ heW (by omega) hbl ?_)
   ·rfl
   ·unfold maxLen;omega
   ·omega
   ·intro A2 c4 w3 hA2 hgr hor hx3
    have hb3:=HBB.out.grown hgr (fun e=>HNA.out e.symm)
    have c0:=hb3.cell 0;have f0:=hb3.frozen 0;simp only[Ah,Af,Ag]at c0;have hO3:=B8.kept HOO.out hgr HAP.out;have hb4:Ap (w3.setCell ⟨g,0,none⟩ (.slice A2 (n+1) c4)) g 134 #[.slice A2 (n+1) c4,.slice O q d]:=by simpa using hb3.set_ 0 (.slice A2 (n+1) c4)
    have hA4:B8 (w3.setCell ⟨g,0,none⟩ (.slice A2 (n+1) c4)) (g+1) 5 1 A2 (n+1) c4 ((ah++[b]).map bv):=by
     have:=B8.setCell hA2 (p:=⟨g,0,none⟩) (C6 g) (.slice A2 (n+1) c4)
     simpa[bv]using this
    have ho4:Ay (w3.setCell ⟨g,0,none⟩ (.slice A2 (n+1) c4)) (g+1) O q d out:=B8.setCell hO3 (p:=⟨g,0,none⟩) (C6 g) (.slice A2 (n+1) c4);have hE4:=hx3.setCell (p:=⟨g,0,none⟩) hg (.slice A2 (n+1) c4);have hgz:=hb3.lt;clear hA2 hgr hor hx3 hb3 hO3 HBB HOO HAP HNA ha heW k0 k1 f1;go_wp2_with fail
    clear c0 f0
    revert hb4 hA4 ho4 hE4
    generalize w3.setCell ⟨g,0,none⟩ (.slice A2 (n+1) c4)=w4;intro hb4 hA4 ho4 hE4;obtain⟨bs,hbs⟩:∃bs,ah++[b]=bs:=⟨_,rfl⟩;rw[hbs]at hA4 Hfull Hpart Hlt;clear hbs;have hpl:bs.length=(n+1):=by have:=(B8.rd hA4).len;rw[Cs]at this;omega
    obtain⟨ad,hAe,hca⟩:=Z5 (B8.rd hA4) (k:=0) (by omega)
    rw[E5]at hca;subst hAe;have k0:=hb4.cell 0;have k1:=hb4.cell 1;have f0:=hb4.frozen 0;have f1:=hb4.frozen 1;simp only[Ah,Af,Ag]at k0 k1;have HWh:=A6 (Ni (gN bs 0));have hcv:=Mf (Rd.ext (B8.rd hA4) (Am.drew w4));have HG:Hid (∀wq,Calls Tryz.prog 38 #[.string (Fx bs)] wq fun e w'=>e=.returned (.tuple #[.int .i64 (Hb bs),.int .i64 (Ka bs),.int .i64 (H8 bs)])∧wq=w'):=A6 fun wq=>by
     have h:=Q2 (Fx bs) wq
     rwa[Ly Hlt.out]at h
    have HB4:=A6 hb4;have HA4:=A6 hA4;have HO4:=A6 ho4;have HE4:=A6 hE4;have hpc:=(B8.rd hA4).ncap;have hpm:=(B8.rd hA4).nmax;unfold maxLen at hpm;have hg4:=hb4.lt;have hpl2:=A6 hpl;clear hb4 hA4 ho4 hE4 hpl;generalize hwz:J7 (gN bs 0)=wz at*;generalize gN bs 0=a0 at*;have Hwz:=A6 hwz;clear hwz;go_region_held3 (fun w'=>w'.cell? ⟨g,0,none⟩=some (.slice (some ad) (n+1) c4)∧w'.cell? ad=some (.int .u8 a0)) (first|assumption|exact⟨k0,hca⟩)
     ((go_at_call 123;refine(HWh.out _).mono ?_;rintro e w' ⟨rfl,rfl⟩))
    by_cases hfull:(n+1)=wz
    ·have hfi:(((n:Int)+1)==(wz:Int))=true:=by simp;omega
     have HR:=A6 (Hfull.out (by rw[hpl2.out];exact hfull))
     generalize Hb bs=gc at*;generalize Ka bs=gw at*;generalize H8 bs=ge at*;clear hfull;go_wp2_with fail
     refine(HG.out _).mono ?_
     rintro e w' ⟨rfl,rfl⟩;have hown:=Ay.ext HO4.out (Am.drew w4);have hE5:=HE4.out.to_drew;have hg5:g+1≤w4.drew.heap.size:=hg4;clear hcv hca;go_wp2_with (at_builtin;refine Cl rfl (.tmp 81) (.tmp 83) 25 rfl w0 (g+1) 3 i0 (.int .i64 0) 1 8 Tryz.underlying25 hi hz0 hz1 hz2 rfl (by decide) O q d _ rfl hown #[.int .i64 gc] rfl ?_ rfl ?_ ?_ hE5 (by omega) hg5 ?_)
     ·rfl
     ·unfold maxLen;omega
     ·omega
     ·intro O2 d2 w5 hO2 hgr hor hx3
      have hne:(Ak O q d).ownBlock≠some g:=fun e=>by have:=(B8.blk HO4.out g e).1;omega
      have hb5:=(HB4.out.drewN 1).grown hgr (fun e=>hne e.symm)
      have c0:=hb5.cell 0;have c1:=hb5.cell 1;have f0:=hb5.frozen 0;have f1:=hb5.frozen 1;simp only[Ah,Af,Ag]at c0 c1;have hb6:Ap (w5.setCell ⟨g,1,none⟩ (.slice O2 (q+1) d2)) g 134 #[.slice (some ad) (n+1) c4,.slice O2 (q+1) d2]:=by simpa using hb5.set_ 1 (.slice O2 (q+1) d2)
      exact I5
    ·have hfi:(((n:Int)+1)==(wz:Int))=false:=by simp;omega
     have HR:=A6 (Hpart.out (by rw[hpl2.out];exact hfull))
     have HF:Hid (F0 w4.drew g ⟨bs,out⟩):=A6 ⟨some ad,(n+1),c4,O,q,d,HB4.out.drewN 1,B8.ext HA4.out (Am.drew w4),Ay.ext HO4.out (Am.drew w4)⟩;clear hfull hcv hca;go_wp2_with fail
     go_end0
     exact⟨rfl,by rw[HR.out];exact HF.out,HE4.out.to_drew⟩
  ·have HB:=A6 (J9j HM.out he hg HQ.out)
   have HE:Hid (Xw ⟨ah,out⟩=⟨[],out++[65533]⟩):=A6 (by unfold Xw;exact if_neg (by show ¬ah.length=0;omega))
   rw[HE.out]at HB;have HP:Hid (Jw ⟨ah,out⟩ b=Js ⟨[],out++[65533]⟩ b):=A6 (Nj out hne hf);have HFc:=A6 (HFt.out w (Am.refl w));rw[decide_eq_false hf]at HFc;clear hf HFt HM he hne h0 HE;have k0:=hb.cell 0;have k1:=hb.cell 1;have f0:=hb.frozen 0;have f1:=hb.frozen 1;simp only[Ah,Af,Ag]at k0 k1;clear hb ha ho hl f0 f1;go_enter Tryz.func78,Tryz.ntmps78
   go_wp2_with fail
   refine HFc.out.mono ?_
   rintro e w' ⟨rfl,rfl⟩;clear HFc;go_wp2_with fail
   refine HB.out.mono ?_
   rintro e w1 ⟨rfl,hM1,heW⟩;clear HB k0 k1 hnc hcm HltA;have HltA:Hid (∀x∈([]:List Nat),x<256):=A6 (by simp)
   obtain⟨A,n',c,O,q',d,hb,ha,ho⟩:=hM1;obtain rfl:n'=0:=by have:=(B8.rd ha).len;simp at this;omega
   have hqb2:q'≤1000001:=by have h1:=ho.ints.len;simp at h1;have h2:=HQ.out;omega
   have hnc:=(B8.rd ha).ncap;have hcm:=(B8.rd ha).nmax;unfold maxLen at hcm;have HA0:=A6 ha;have HAZ:Hid (∀(w3:World) (row:Option Nat),w1.grownBy w3 row→((Ak A 0 c).ownBlock=none∨(Ak A 0 c).ownBlock≠row)→B8 w3 (g+1) 5 1 A 0 c []):=A6 fun w3 row h1 h2=>B8.kept ha h1 h2
   have k0:=hb.cell 0;have k1:=hb.cell 1;have f0:=hb.frozen 0;have f1:=hb.frozen 1;simp only[Ah,Af,Ag]at k0 k1;have HW:=A6 (Ni b);by_cases hw0:J7 b=0
   ·rw[hw0]at HW
    have HR:Hid (Jw ⟨ah,out⟩ b=⟨[],(out++[65533])++[65533]⟩):=A6 (by rw[HP.out];unfold Js;exact if_pos ⟨rfl,hw0⟩)
    have hbl:=hb.lt;have HBB:=A6 hb;have HOO:=A6 ho;clear hw0 HP hb ha;go_wp2_with fail
    refine(HW.out _).mono ?_
    rintro e w' ⟨rfl,rfl⟩;go_wp2_with (at_builtin;refine Cl rfl (.tmp 39) (.tmp 40) 25 rfl w0 (g+1) 3 i0 (.int .i64 0) 1 8 Tryz.underlying25 hi hz0 hz1 hz2 rfl (by decide) O q' d _ rfl ho #[.int .i64 65533] rfl ?_ rfl ?_ ?_ heW (by omega) hbl ?_)
    ·rfl
    ·unfold maxLen;omega
    ·omega
    ·have N1:=trivial;exact K42
   ·have N1:=trivial;exact K8
def Yv (l:List Nat):Xp:=Jr l ⟨[],[]⟩
theorem Q6q (l:List Nat):Xo (Yv l).ah:=(Tc l [] trivial).1
theorem Q6r (l:List Nat):(Yv l).out.length≤l.length:=by have:=(Tc l [] trivial).2.2;unfold Yv;simp at this;omega
theorem Z0x {l:List Nat}(h:∀x∈l,x<256):∀x∈(Yv l).ah,x<256:=by
 obtain⟨p,hp⟩:=Zi l [];intro x hx;refine h x ?_
 have:x∈[]++l:=by rw[hp];exact List.mem_append_right _ hx
 simpa using this
theorem Q2x (l:List Nat)(b:Nat):Yv (l++[b])=Jw ⟨(Yv l).ah,(Yv l).out⟩ b:=J7g l b _
theorem J6p {l:List Nat}{k:Nat}(h:k<l.length):l.take (k+1)=l.take k++[gN l k]:=by
 rw[List.take_succ_eq_append_getElem h];simp[gN,List.getElem?_eq_getElem h]
theorem Ss {s:ByteArray}{w:World}(hs:s.size≤8200):
 Calls Tryz.prog 57 #[.string s] w fun e w'=>∃g,e=.returned (.pointer (some ⟨g,0,none⟩))∧F0 w' g (Yv (Ao s))∧w.heap.size≤g∧Am w w':=by
 have HN:=A6 (Fi s);have HLt:=A6 (Te s);have HM0:Hid (F0 (w.alloc (.cells #[.slice none 0 0,.slice none 0 0] 134)) w.heap.size (Yv [])):=
  A6 ⟨none,0,0,none,0,0,Ap.new _ _ _,B8.nil _ _ _ _,Ay.nil _ _⟩
 go_enter Tryz.func57,Tryz.ntmps57
 go_wp2_with fail
 go_loopw [9] (fun iv wr=>∃k:Nat,k≤s.size∧iv=.int .i64 k∧Hid (F0 wr w.heap.size (Yv ((Ao s).take k)))∧Am w wr) (fun iv _=>s.size-(intOf iv).toNat)
 case atStart=>exact⟨0,by omega,rfl,HM0,Am.alloc _ _⟩
 case round=>
  clear HM0;obtain⟨k,hk,rfl,hM,he⟩:=hrel;by_cases hlt:k<s.size
  ·have hik:=Tf s k hlt
   have HT:=A6 (Yh (w0:=w) (b:=gN (Ao s) k) (ah:=(Yv ((Ao s).take k)).ah) (out:=(Yv ((Ao s).take k)).out) hM.out (Q6q _) (A6 (Z0x (fun x hx=>HLt.out x (List.mem_of_mem_take hx)))) (J4q HLt.out k) he (Aj _) (by have h1:=Q6r ((Ao s).take k);rw[List.length_take]at h1;omega))
   rw[←Q2x,←J6p (by rw[HN.out];exact hlt)]at HT
   clear hM;go_wp2_with fail
   refine HT.out.mono ?_
   rintro e w2 ⟨rfl,hM2,he2⟩;have HM2:=A6 hM2;clear HT hM2 he;go_wp2_with fail
   go_roundw
   case rel=>exact⟨k+1,by omega,by go_num,HM2,he2⟩
   case measure=>simp[intOf];omega
  ·obtain rfl:k=s.size:=by omega
   have HM2:Hid (F0 wr w.heap.size (Yv (Ao s))):=A6 (by have:=hM.out;rwa[List.take_of_length_le (by rw[HN.out];exact Aj _)]at this)
   clear hM;go_wp2_with fail
   go_ret
   exact⟨_,rfl,HM2.out,Aj _,he⟩
theorem Vp {s:ByteArray}{w:World}(hs:s.size≤8200):
 Calls Tryz.prog 56 #[.string s] w fun e w'=>e=.returned (.int .i64 (if(Yv (Ao s)).out.length=0 then 0 else 4))∧Am w w':=by
 have HR:=A6 (Ss (w:=w) hs);generalize Yv (Ao s)=m at*;obtain⟨z,hz⟩:∃z:Int,(if m.out.length=0 then 0 else 4)=z:=⟨_,rfl⟩;rw[hz];have HZ:=A6 hz;clear hz;go_enter Tryz.func56,Tryz.ntmps56
 go_wp2_with fail
 refine HR.out.mono ?_
 rintro e w1 ⟨g,rfl,hM,hg,he⟩;obtain⟨A,n,c,O,q,d,hb,ha,ho⟩:=hM;have k1:=hb.cell 1;simp only[Ah,Af,Ag]at k1;have hql:Hid (m.out.length=q):=A6 ho.ints.len;clear HR hb ha ho;by_cases h0:q=0
 ·subst h0
  go_wp2_with fail
  go_ret
  exact⟨J0 (by rw[←HZ.out,if_pos hql.out]),he⟩
 ·have hq:0<q:=by omega
  go_wp2_with fail
  go_ret
  exact⟨J0 (by rw[←HZ.out,if_neg (by rw[hql.out];exact h0)]),he⟩
theorem Xg {ah:List Nat}{w:World}(hp:Xo ah)(hlt:∀x∈ah,x<256):
 Calls Tryz.prog 56 #[.string (Fx ah)] w fun e w'=>e=.returned (.int .i64 0)∧Am w w':=by
 have h:=Vp (s:=Fx ah) (w:=w) (by rw[Wd];have:=Y9 hp;omega)
 rw[Ly hlt]at h;unfold Yv at h;rw[J5c hp]at h;exact h
def Da (ah:List Nat)(l:List Nat):Xp:=Jr l ⟨ah,[]⟩
theorem Q6s {ah:List Nat}(hp:Xo ah)(l:List Nat):Yv (ah++l)=Da ah l:=by unfold Yv Da;rw[U7,J5c hp]
theorem Q4a {ah:List Nat}{s:ByteArray}{w:World}(hp:Xo ah)(hlt:∀x∈ah,x<256)(hs:4096<s.size):
 Calls Tryz.prog 39 #[.string (Fx ah),.string s] w fun e w'=>e=.returned (.tuple #[.string ⟨#[]⟩,.slice none 0 0,.int .i64 2])∧Am w w':=by
 have HC:=A6 (Xg (w:=w) hp hlt);clear hp hlt;generalize Fx ah=p at*;go_enter Tryz.func39,Tryz.ntmps39
 go_wp2_with fail
 refine HC.out.mono ?_
 rintro e w1 ⟨rfl,he⟩;go_wp2_with fail
 go_ret3
 exact⟨rfl,he⟩
theorem Q3z {ah:List Nat}{s:ByteArray}{w:World}(hp:Xo ah)(hlt:∀x∈ah,x<256)(hs:s.size≤4096):
 Calls Tryz.prog 39 #[.string (Fx ah),.string s] w fun e w'=>∃O q d,e=.returned (.tuple #[.string (Fx (Da ah (Ao s)).ah),.slice O q d,.int .i64 0])∧Ay w' w.heap.size O q d (Da ah (Ao s)).out∧Am w w':=by
 have HC:=A6 (Xg (w:=w) hp hlt);have hz:=Wd ah;have h3:=Y9 hp;have HR:Hid (∀wq,Calls Tryz.prog 57 #[.string (Fx ah++s)] wq fun e w'=>∃g,e=.returned (.pointer (some ⟨g,0,none⟩))∧F0 w' g (Da ah (Ao s))∧wq.heap.size≤g∧Am wq w'):=A6 fun wq=>by
  have h:=Ss (s:=Fx ah++s) (w:=wq) (by rw[ByteArray.size_append,hz];omega)
  rwa[Zp,Ly hlt,Q6s hp]at h
 clear hp hlt;generalize Da ah (Ao s)=m at*;generalize Fx ah=p at*;generalize ah.length=z at*;go_enter Tryz.func39,Tryz.ntmps39
 go_wp2_with fail
 refine HC.out.mono ?_
 rintro e w1 ⟨rfl,he1⟩;clear HC;go_wp2_with fail
 refine(HR.out _).mono ?_
 rintro e w2 ⟨g,rfl,hM,hg,he2⟩;obtain⟨A,n,c,O,q,d,hb,ha,ho⟩:=hM;have k0:=hb.cell 0;have k1:=hb.cell 1;simp only[Ah,Af,Ag]at k0 k1;have hcv:=Mf (Rd.ext (B8.rd ha) (Am.drew w2));have HO:=A6 ((Ay.ext ho (Am.drew w2)).lower (show w.heap.size≤g+1 by have:=he1.hsize;omega))
 have hend:=(he1.trans he2).to_drew;clear HR hb ha ho he1 he2 hg;go_wp2_with fail
 go_region_with fail
 all_goals
  go_wp2_with fail
  go_ret3
  exact⟨O,q,d,rfl,HO.out,hend⟩
