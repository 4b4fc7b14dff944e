/-
  Part ZFeedW.
-/
import Derived.Test.YtkaefdmhlmlhbaaGreatZUtfA
import Derived.Deep.RegionHeld3
import Derived.Deep.RegionLaw
import Derived.Laws.BytesString
set_option maxRecDepth 100000
set_option maxHeartbeats 16000000
set_option linter.unusedVariables false
set_option linter.unusedSimpArgs false
namespace Go.Proofs.YtkaefdmhlmlhbaaGreat
open Go.RowKit
open _root_.List renaming getElem?_cons_succ→Ag,getElem?_cons_zero→Af,getElem?_eq_getElem→Bm,getElem?_toArray→Ah,length_map→Cs
open Value renaming slice→Ak
open _root_.Nat renaming le_refl→Aj,lt_succ_self→Br
section
variable {ah:List Nat}{w:World}{s:ByteArray}{A:Option Addr}{n c g:Nat}
def bv (b:Nat):Value:=.int .u8 b
theorem vP:(Tryz.prog.info? 5).map (fun i=>(i.zero,i.size,i.bytes))=some (some (.int .u8 0),1,1):=by kernel_rfl
theorem kA (b:Nat)(w:World):Calls Tryz.prog 155 #[.int .u8 b] w fun e w'=>e=.returned (.tuple #[.int .u8 (Tv b),.int .u8 (Tw b)])∧w=w':=by
 by_cases c1:b=224
 ·subst c1
  exact I15
 by_cases c2:b=237
 ·subst c2
  exact I15
 by_cases c3:b=240
 ·subst c3
  exact I15
 by_cases c4:b=244
 ·subst c4
  exact I15
 have e1:Tv b=128:=by unfold Tv;rw[if_neg c1,if_neg c3]
 have e2:Tw b=191:=by unfold Tw;rw[if_neg c2,if_neg c4]
 rw[e1,e2];have k1:((b:Int)==224)=false:=by simp;omega
 have k2:((b:Int)==237)=false:=by simp;omega
 have k3:((b:Int)==240)=false:=by simp;omega
 have k4:((b:Int)==244)=false:=by simp;omega
 clear c1 c2 c3 c4 e1 e2;exact I15
theorem P5 (b:Nat)(w:World):Calls Tryz.prog 123 #[.int .u8 b] w fun e w'=>e=.returned (.int .i64 (Gt b))∧w=w':=by
 have key:∀z:Nat,Gt b=z→Gt b=z:=fun _ h=>h
 by_cases c1:b<128
 ·rw[wh1.2 c1]
  exact I14
 by_cases c2:b<194
 ·rw[show Gt b=0 by unfold Gt;rw[if_neg c1,if_neg (by omega),if_neg (by omega),if_neg (by omega)]]
  have k1:¬(194:Int)≤b:=by omega
  have k2:¬(224:Int)≤b:=by omega
  have k3:¬(240:Int)≤b:=by omega
  exact I14
 by_cases c3:b<224
 ·rw[wh2.2 ⟨by omega,by omega⟩]
  have k1:(194:Int)≤b:=by omega
  have k2:(b:Int)≤223:=by omega
  exact I14
 by_cases c4:b<240
 ·rw[wh3.2 ⟨by omega,by omega⟩]
  have k1:(194:Int)≤b:=by omega
  have k2:¬(b:Int)≤223:=by omega
  have k3:(224:Int)≤b:=by omega
  have k4:(b:Int)≤239:=by omega
  exact I14
 by_cases c5:b<245
 ·rw[wh4.2 ⟨by omega,by omega⟩]
  have k1:(194:Int)≤b:=by omega
  have k2:¬(b:Int)≤223:=by omega
  have k3:(224:Int)≤b:=by omega
  have k4:¬(b:Int)≤239:=by omega
  have k5:(240:Int)≤b:=by omega
  have k6:(b:Int)≤244:=by omega
  exact I14
 ·rw[show Gt b=0 by unfold Gt;rw[if_neg c1,if_neg (by omega),if_neg (by omega),if_neg (by omega)]]
  have k1:(194:Int)≤b:=by omega
  have k2:¬(b:Int)≤223:=by omega
  have k3:(224:Int)≤b:=by omega
  have k4:¬(b:Int)≤239:=by omega
  have k5:(240:Int)≤b:=by omega
  have k6:¬(b:Int)≤244:=by omega
  exact I14
theorem aA (h:Rd w 1 A n c (ah.map bv)){k:Nat}(hk:k<n):∃ad,A=some ad∧w.cell? (ad.add k)=some (.int .u8 (gN ah k)):=by
 obtain⟨ad,e,hc⟩:=h.at_ hk;have hl:ah.length=n:=by have:=h.len;rw[Cs]at this;omega
 refine⟨ad,e,hc k _ ?_⟩
 rw[List.getElem?_map,Bm (by omega)]
 simp[bv,gN,Bm (show k<ah.length by omega)]
theorem Zf {b:Nat}(h:Rd w 1 A n c (ah.map bv)):
 Calls Tryz.prog 121 #[.slice A n c,.int .u8 b] w fun e w'=>e=.returned (.bool (decide (Ed ah b)))∧w=w':=by
 have hl:ah.length=n:=by have:=h.len;rw[Cs]at this;omega
 have hnc:=h.ncap;have hcm:=h.nmax;unfold maxLen at hcm;by_cases h1:n=1
 ·subst h1
  obtain⟨ad,rfl,hc⟩:=aA h (k:=0) (by omega)
  rw[Du]at hc;have HS:=A6 (kA (gN ah 0));have HE:Hid (Ed ah b↔Tv (gN ah 0)≤b∧b≤Tw (gN ah 0)):=A6 (by unfold Ed;rw[if_pos hl])
  clear h hl;generalize gN ah 0=a at*;generalize Tv a=x at*;generalize Tw a=y at*;go_enter Tryz.func121,Tryz.ntmps121
  go_wp2_with fail
  refine(HS.out _).mono ?_
  rintro e w' ⟨rfl,rfl⟩;by_cases k1:x≤b
  ·have k1i:(x:Int)≤(b:Int):=by omega
   by_cases k2:b≤y
   ·have k2i:(b:Int)≤(y:Int):=by omega
    have hE:=A6 (decide_eq_true (HE.out.2 ⟨k1,k2⟩));exact I63
   ·have k2i:¬(b:Int)≤(y:Int):=by omega
    have hE:=A6 (decide_eq_false (fun hh=>k2 (HE.out.1 hh).2))
    exact I63
  ·have k1i:¬(x:Int)≤(b:Int):=by omega
   have hE:=A6 (decide_eq_false (fun hh=>k1 (HE.out.1 hh).1))
   exact I63
 ·have HE:Hid (Ed ah b↔128≤b∧b≤191):=A6 (by unfold Ed;rw[if_neg (by omega)])
  have hn1:((n:Int)==1)=false:=by simp;omega
  clear h;by_cases k1:128≤b
  ·have k1i:(128:Int)≤(b:Int):=by omega
   by_cases k2:b≤191
   ·have k2i:(b:Int)≤191:=by omega
    have hE:=A6 (decide_eq_true (HE.out.2 ⟨k1,k2⟩));exact I30
   ·have k2i:¬(b:Int)≤191:=by omega
    have hE:=A6 (decide_eq_false (fun hh=>k2 (HE.out.1 hh).2))
    exact I30
  ·have k1i:¬(128:Int)≤(b:Int):=by omega
   have hE:=A6 (decide_eq_false (fun hh=>k1 (HE.out.1 hh).1))
   exact I30
theorem Bd.apart {base base' e e' z z' n n' c c':Nat}{A A':Option Addr}{xs ys:List Value}(h:Bd w base e z A n c xs)(h':Bd w base' e' z' A' n' c' ys)(hne:e≠e'):
 (Ak A n c).ownBlock=none∨(Ak A n c).ownBlock≠(Ak A' n' c').ownBlock:=by
 rcases h.2 with⟨hv,_⟩|⟨g,cap,cur,hv,_,hg,_⟩
 ·left;rw[hv];rfl
 ·right
  rcases h'.2 with⟨hv',_⟩|⟨g',cap',cur',hv',_,hg',_⟩
  ·rw[hv,hv'];simp[Value.ownBlock]
  ·rw[hv,hv']
   intro e;simp[Value.ownBlock]at e;subst e;rw[hg]at hg';injection hg' with hg';injection hg' with _ h2;exact hne h2
def Fi (w:World)(g:Nat)(m:Yk):Prop:=
 ∃A n c O q d,Aq w g 134 #[.slice A n c,.slice O q d]∧Bd w (g+1) 5 1 A n c (m.ah.map bv)∧Av w (g+1) O q d m.out
theorem Fi.ext {w w':World}{m:Yk}(h:Fi w g m)(he:An w w'):Fi w' g m:=by
 obtain⟨A,n,c,O,q,d,h1,h2,h3⟩:=h;exact⟨A,n,c,O,q,d,h1.ext he,Bd.ext h2 he,Av.ext h3 he⟩
theorem My (hr:Rd w 1 A n c (ah.map bv)):
 (convert 121 9 (.slice A n c)).run Tryz.prog w=.ok (.string (Ef ah)) w:=by
 have hl:ah.length=n:=by have:=hr.len;rw[Cs]at this;omega
 have hfold:∀(l:List Nat) (s:ByteArray),(l.map (fun b:Nat=>(b:Int))).foldl (fun r n=>r.push (UInt8.ofNat n.toNat)) s=s++Ef l:=by
  intro l
  induction l with
  |nil=>intro s;have:Ef []=ByteArray.empty:=rfl;rw[this];simp
  |cons b l ih=>
   intro s;rw[List.map_cons,List.foldl_cons,ih];apply ByteArray.ext
   simp[Ef,ByteArray.data_append]
 rw[run_convert_bytes_string w _ _ 5 _ _ _ Tryz.underlying121 Tryz.underlying5 Tryz.underlying9];cases A with
 |none=>
  have h0:n=0:=by
   rcases Nat.eq_zero_or_pos n with h|h
   ·exact h
   ·obtain⟨ad,e,_⟩:=hr.at_ (k:=0) h;cases e
  subst h0;obtain rfl:ah=[]:=List.length_eq_zero_iff.1 hl
  rfl
 |some a=>
  have hc:∀j,j<n→w.cell? (a.add j)=some (.int .u8 ((ah.map (fun b:Nat=>(b:Int))).getD j 0)):=by
   intro j hj;obtain⟨a',e,hc⟩:=aA hr hj;injection e with e;subst e;rw[hc];simp[gN,List.getD,List.getElem?_eq_getElem (show j<ah.length by omega)]
  have hload:=run_loadCells (P:=Tryz.prog) w a n (fun j=>.int .u8 ((ah.map (fun b:Nat=>(b:Int))).getD j 0)) hc
  have hrange:=range_map_take (Value.int .u8) (ah.map (fun b:Nat=>(b:Int))) n (by rw[Cs];omega)
  rw[List.take_of_length_le (by rw[Cs];omega)]at hrange
  rw[run_bytesToString w a n c (ah.map (fun b:Nat=>(b:Int))) (by rw[hload,hrange]),hfold]
  simp
theorem mO {w0 w:World}{m:Yk}(h:Fi w g m)(he:An w0 w)(hg:w0.heap.size≤g)(hq:m.out.length≤1000000):
 Calls Tryz.prog 122 #[.pointer (some ⟨g,0,none⟩)] w fun e w'=>e=.returned (.tuple #[])∧Fi w' g (Yo m)∧An w0 w':=by
 obtain⟨i0,hi,hz0,hz1,hz2⟩:=info_parts Cb;have HM:=A6 h;obtain⟨A,n,c,O,q,d,hb,ha,ho⟩:=h;have hl:m.ah.length=n:=by have:=(Bd.rd ha).len;rw[Cs]at this;omega
 have hql:m.out.length=q:=ho.ints.len;have k0:=hb.cell 0;have k1:=hb.cell 1;have f0:=hb.frozen 0;have f1:=hb.frozen 1;simp only[Ah,Af,Ag]at k0 k1;have hlt:=hb.lt;by_cases h0:n=0
 ·have HE:Hid (Yo m=m):=A6 (by unfold Yo;rw[if_pos (by omega)])
  subst h0;clear hb ha ho hl hql f0 f1;go_enter Tryz.func122,Tryz.ntmps122
  go_wp2_with fail
  go_end0
  exact⟨rfl,by rw[HE.out];exact HM.out,he⟩
 ·have HE:Hid (Yo m=⟨[],m.out++[65533]⟩):=A6 (by unfold Yo;rw[if_neg (by omega)])
  have hn0:0<n:=by omega
  have hq2:q≤1000000:=by omega
  have a1:=An.cell (An.alloc w (.cells #[.int .i64 65533] 3)) k1;have HB:=A6 hb;have HO:=A6 ho;clear hb ha ho hl hql hq h0 HM;go_enter Tryz.func122,Tryz.ntmps122
  have hown:=HO.out;go_wp2_with (at_builtin;refine C6 rfl (.tmp 12) (.tmp 13) 25 rfl w0 (g+1) 3 i0 (.int .i64 0) 1 8 Tryz.underlying25 hi hz0 hz1 hz2 rfl (by decide) O q d _ rfl hown #[.int .i64 65533] rfl ?_ rfl ?_ ?_ he (by omega) (by omega) ?_)
  ·rfl
  ·unfold maxLen;omega
  ·omega
  ·intro O2 d2 w3 hO2 hgr hor hx3
   have hne:(Ak O q d).ownBlock≠some g:=fun e=>by have:=(Bd.blk HO.out g e).1;omega
   have hb3:=HB.out.grown hgr (fun e=>hne e.symm)
   have c0:=hb3.cell 0;have c1:=hb3.cell 1;have f0:=hb3.frozen 0;have f1:=hb3.frozen 1;simp only[Ah,Af,Ag]at c0 c1;have hb4:Aq (w3.setCell ⟨g,1,none⟩ (.slice O2 (q+1) d2)) g 134 #[.slice A n c,.slice O2 (q+1) d2]:=by simpa using hb3.set_ 1 (.slice O2 (q+1) d2)
   have f4:=hb4.frozen 0;have c4:=hb4.cell 0;simp only[Ah,Af,Ag]at c4;have hb5:Aq ((w3.setCell ⟨g,1,none⟩ (.slice O2 (q+1) d2)).setCell ⟨g,0,none⟩ (.slice none 0 0)) g 134 #[.slice none 0 0,.slice O2 (q+1) d2]:=by simpa using hb4.set_ 0 (.slice none 0 0)
   have hO5:Av ((w3.setCell ⟨g,1,none⟩ (.slice O2 (q+1) d2)).setCell ⟨g,0,none⟩ (.slice none 0 0)) (g+1) O2 (q+1) d2 (m.out++[65533]):=by
    exact I118
   have hE5:=(hx3.setCell (p:=⟨g,1,none⟩) hg (.slice O2 (q+1) d2)).setCell (p:=⟨g,0,none⟩) hg (.slice none 0 0);have HF:Hid (Fi ((w3.setCell ⟨g,1,none⟩ (.slice O2 (q+1) d2)).setCell ⟨g,0,none⟩ (.slice none 0 0)) g ⟨[],m.out++[65533]⟩):=A6 ⟨none,0,0,O2,q+1,d2,hb5,Bd.nil _ _ _ _,hO5⟩;have HX:=A6 hE5;clear hO2 hgr hor hx3 hb3 hb4 hb5 hO5 hE5 hown;go_wp2_with fail
   go_end0
   exact⟨rfl,by rw[HE.out];exact HF.out,HX.out⟩
theorem Yz (h:Yj ah):ah.length≤3:=by
 match ah,h with
 |[],_=>simp
 |[a],_=>simp
 |[a,b],_=>simp
 |[a,b,c],_=>simp
theorem Z7 {w0 w:World}{out:List Int}{b:Nat}(h:Fi w g ⟨ah,out⟩)(hp:Yj ah)(HltA:Hid (∀x∈ah,x<256))(hb256:b<256)(he:An w0 w)(hg:w0.heap.size≤g)(hq:out.length≤1000000):
 Calls Tryz.prog 78 #[.pointer (some ⟨g,0,none⟩),.int .u8 b] w fun e w'=>e=.returned (.tuple #[])∧Fi w' g (Kj ⟨ah,out⟩ b)∧An w0 w':=by
 obtain⟨i0,hi,hz0,hz1,hz2⟩:=info_parts Cb;obtain⟨i8,hi8,hy0,hy1,hy2⟩:=info_parts vP;have hal:=Yz hp;have HM:=A6 h;obtain⟨A,n,c,O,q,d,hb,ha,ho⟩:=h;have hl:ah.length=n:=by have:=(Bd.rd ha).len;rw[Cs]at this;simp at this;omega
 have hql:out.length=q:=ho.ints.len;have hqb:q≤1000000:=by omega
 have hnc:=(Bd.rd ha).ncap;have hcm:=(Bd.rd ha).nmax;unfold maxLen at hcm;have HQ:Hid (out.length≤1000000):=A6 (by omega)
 clear hp hql hq;by_cases h0:n=0
 ·subst h0
  obtain rfl:ah=[]:=List.length_eq_zero_iff.1 hl;have HP:Hid (Kj ⟨[],out⟩ b=Ke ⟨[],out⟩ b):=A6 (Jy out b);have heW:=he;have HA0:=A6 ha;have HAZ:Hid (∀(w3:World) (row:Option Nat),w.grownBy w3 row→((Ak A 0 c).ownBlock=none∨(Ak A 0 c).ownBlock≠row)→Bd w3 (g+1) 5 1 A 0 c []):=A6 fun w3 row h1 h2=>Bd.kept ha h1 h2
  clear hl HM he;have k0:=hb.cell 0;have k1:=hb.cell 1;have f0:=hb.frozen 0;have f1:=hb.frozen 1;simp only[Ah,Af,Ag]at k0 k1;go_enter Tryz.func78,Tryz.ntmps78
  have HW:=A6 (P5 b);by_cases hw0:Gt b=0
  ·rw[hw0]at HW
   have HR:Hid (Kj ⟨[],out⟩ b=⟨[],out++[65533]⟩):=A6 (by rw[HP.out];unfold Ke;exact if_pos ⟨rfl,hw0⟩)
   have hbl:=hb.lt;have HBB:=A6 hb;have HOO:=A6 ho;clear hw0 HP hb ha;go_wp2_with fail
   refine(HW.out _).mono ?_
   rintro e w' ⟨rfl,rfl⟩;go_wp2_with (at_builtin;refine C6 rfl (.tmp 39) (.tmp 40) 25 rfl w0 (g+1) 3 i0 (.int .i64 0) 1 8 Tryz.underlying25 hi hz0 hz1 hz2 rfl (by decide) O q d _ rfl ho #[.int .i64 65533] rfl ?_ rfl ?_ ?_ heW (by omega) hbl ?_)
   ·rfl
   ·unfold maxLen;omega
   ·omega
   ·have N0:=trivial;exact K42
  ·have N0:=trivial;exact K8

 ·have hn1:0<n:=by omega
  have hne:ah≠[]:=fun e=>by rw[e]at hl;simp at hl;omega
  have HFt:=A6 (fun wq he'=>Zf (b:=b) (w:=wq) (Rd.ext (Bd.rd ha) (w':=wq) he'))
  by_cases hf:Ed ah b
  ·have HP:Hid (Kj ⟨ah,out⟩ b=Ke ⟨ah,out⟩ b):=A6 (by unfold Kj;rw[if_neg (fun hh=>hh.2 hf)])
   have HFc:=A6 (HFt.out w (An.refl w));rw[decide_eq_true hf]at HFc;have hnb:¬(ah.length=0∧Gt b=0):=fun h=>by omega
   have heW:=he;clear hf HFt HM he hne h0;have k0:=hb.cell 0;have k1:=hb.cell 1;have f0:=hb.frozen 0;have f1:=hb.frozen 1;simp only[Ah,Af,Ag]at k0 k1;go_enter Tryz.func78,Tryz.ntmps78
   go_wp2_with fail
   refine HFc.out.mono ?_
   rintro e w' ⟨rfl,rfl⟩;have hn3:n≤3:=by omega
   clear HFc hl;have Hfull:Hid ((ah++[b]).length=Gt (gN (ah++[b]) 0)→Kj ⟨ah,out⟩ b=⟨[],out++[(Ex (ah++[b]):Int)]⟩):=A6 fun h=>by
    rw[HP.out];unfold Ke;rw[if_neg hnb];exact if_pos h
   have Hpart:Hid (¬(ah++[b]).length=Gt (gN (ah++[b]) 0)→Kj ⟨ah,out⟩ b=⟨ah++[b],out⟩):=A6 fun h=>by
    rw[HP.out];unfold Ke;rw[if_neg hnb];exact if_neg h
   have Hlt:Hid (∀x∈ah++[b],x<256):=A6 (by
    intro x hx;rcases List.mem_append.1 hx with hx|hx
    ·exact HltA.out x hx
    ·obtain rfl:=List.mem_singleton.1 hx;exact hb256)
   have hap:=Bd.apart ho ha (by decide)
   have hnA:(Ak A n c).ownBlock≠some g:=fun e=>by have:=(Bd.blk ha g e).1;omega
   have hbl:=hb.lt;have HBB:=A6 hb;have HOO:=A6 ho;have HAP:=A6 hap;have HNA:=A6 hnA;clear hap hnA hb ho HP hnb;go_wp2_with (at_builtin;refine C6 rfl (.tmp 48) (.tmp 50) 121 rfl w0 (g+1) 5 i8 (.int .u8 0) 1 1 Tryz.underlying121 hi8 hy0 hy1 hy2 rfl (by decide) A n c _ rfl ha #[.int .u8 b] rfl ?_ rfl ?_ ?_ heW (by omega) hbl ?_)
   ·rfl
   ·unfold maxLen;omega
   ·omega
   ·intro A2 c4 w3 hA2 hgr hor hx3
    have hb3:=HBB.out.grown hgr (fun e=>HNA.out e.symm)
    have c0:=hb3.cell 0;have f0:=hb3.frozen 0;simp only[Ah,Af,Ag]at c0;have hO3:=Bd.kept HOO.out hgr HAP.out;have hb4:Aq (w3.setCell ⟨g,0,none⟩ (.slice A2 (n+1) c4)) g 134 #[.slice A2 (n+1) c4,.slice O q d]:=by simpa using hb3.set_ 0 (.slice A2 (n+1) c4)
    have hA4:Bd (w3.setCell ⟨g,0,none⟩ (.slice A2 (n+1) c4)) (g+1) 5 1 A2 (n+1) c4 ((ah++[b]).map bv):=by
     have:=Bd.setCell hA2 (p:=⟨g,0,none⟩) (Br g) (.slice A2 (n+1) c4)
     simpa[bv]using this
    have ho4:Av (w3.setCell ⟨g,0,none⟩ (.slice A2 (n+1) c4)) (g+1) O q d out:=Bd.setCell hO3 (p:=⟨g,0,none⟩) (Br g) (.slice A2 (n+1) c4);have hE4:=hx3.setCell (p:=⟨g,0,none⟩) hg (.slice A2 (n+1) c4);have hgz:=hb3.lt;clear hA2 hgr hor hx3 hb3 hO3 HBB HOO HAP HNA ha heW k0 k1 f1;go_wp2_with fail
    clear c0 f0
    revert hb4 hA4 ho4 hE4
    generalize w3.setCell ⟨g,0,none⟩ (.slice A2 (n+1) c4)=w4;intro hb4 hA4 ho4 hE4;obtain⟨bs,hbs⟩:∃bs,ah++[b]=bs:=⟨_,rfl⟩;rw[hbs]at hA4 Hfull Hpart Hlt;clear hbs;have hpl:bs.length=(n+1):=by have:=(Bd.rd hA4).len;rw[Cs]at this;omega
    obtain⟨ad,hAe,hca⟩:=aA (Bd.rd hA4) (k:=0) (by omega)
    rw[Du]at hca;subst hAe;have k0:=hb4.cell 0;have k1:=hb4.cell 1;have f0:=hb4.frozen 0;have f1:=hb4.frozen 1;simp only[Ah,Af,Ag]at k0 k1;have HWh:=A6 (P5 (gN bs 0));have hcv:=My (Rd.ext (Bd.rd hA4) (An.drew w4));have HG:Hid (∀wq,Calls Tryz.prog 38 #[.string (Ef bs)] wq fun e w'=>e=.returned (.tuple #[.int .i64 (Ex bs),.int .i64 (Eu bs),.int .i64 (Eg bs)])∧wq=w'):=A6 fun wq=>by
     have h:=Mw (Ef bs) wq
     rwa[Jt Hlt.out]at h
    have HB4:=A6 hb4;have HA4:=A6 hA4;have HO4:=A6 ho4;have HE4:=A6 hE4;have hpc:=(Bd.rd hA4).ncap;have hpm:=(Bd.rd hA4).nmax;unfold maxLen at hpm;have hg4:=hb4.lt;have hpl2:=A6 hpl;clear hb4 hA4 ho4 hE4 hpl;generalize hwz:Gt (gN bs 0)=wz at*;generalize gN bs 0=a0 at*;have Hwz:=A6 hwz;clear hwz;go_region_held3 (fun w'=>w'.cell? ⟨g,0,none⟩=some (.slice (some ad) (n+1) c4)∧w'.cell? ad=some (.int .u8 a0)) (first|assumption|exact⟨k0,hca⟩)
     ((go_at_call 123;refine(HWh.out _).mono ?_;rintro e w' ⟨rfl,rfl⟩))
    by_cases hfull:(n+1)=wz
    ·have hfi:(((n:Int)+1)==(wz:Int))=true:=by simp;omega
     have HR:=A6 (Hfull.out (by rw[hpl2.out];exact hfull))
     generalize Ex bs=gc at*;generalize Eu bs=gw at*;generalize Eg bs=ge at*;clear hfull;go_wp2_with fail
     refine(HG.out _).mono ?_
     rintro e w' ⟨rfl,rfl⟩;have hown:=Av.ext HO4.out (An.drew w4);have hE5:=HE4.out.to_drew;have hg5:g+1≤w4.drew.heap.size:=hg4;clear hcv hca;go_wp2_with (at_builtin;refine C6 rfl (.tmp 81) (.tmp 83) 25 rfl w0 (g+1) 3 i0 (.int .i64 0) 1 8 Tryz.underlying25 hi hz0 hz1 hz2 rfl (by decide) O q d _ rfl hown #[.int .i64 gc] rfl ?_ rfl ?_ ?_ hE5 (by omega) hg5 ?_)
     ·rfl
     ·unfold maxLen;omega
     ·omega
     ·intro O2 d2 w5 hO2 hgr hor hx3
      have hne:(Ak O q d).ownBlock≠some g:=fun e=>by have:=(Bd.blk HO4.out g e).1;omega
      have hb5:=(HB4.out.drewN 1).grown hgr (fun e=>hne e.symm)
      have c0:=hb5.cell 0;have c1:=hb5.cell 1;have f0:=hb5.frozen 0;have f1:=hb5.frozen 1;simp only[Ah,Af,Ag]at c0 c1;have hb6:Aq (w5.setCell ⟨g,1,none⟩ (.slice O2 (q+1) d2)) g 134 #[.slice (some ad) (n+1) c4,.slice O2 (q+1) d2]:=by simpa using hb5.set_ 1 (.slice O2 (q+1) d2)
      exact I6
    ·have hfi:(((n:Int)+1)==(wz:Int))=false:=by simp;omega
     have HR:=A6 (Hpart.out (by rw[hpl2.out];exact hfull))
     have HF:Hid (Fi w4.drew g ⟨bs,out⟩):=A6 ⟨some ad,(n+1),c4,O,q,d,HB4.out.drewN 1,Bd.ext HA4.out (An.drew w4),Av.ext HO4.out (An.drew w4)⟩;clear hfull hcv hca;go_wp2_with fail
     go_end0
     exact⟨rfl,by rw[HR.out];exact HF.out,HE4.out.to_drew⟩
  ·have HB:=A6 (mO HM.out he hg HQ.out)
   have HE:Hid (Yo ⟨ah,out⟩=⟨[],out++[65533]⟩):=A6 (by unfold Yo;exact if_neg (by show ¬ah.length=0;omega))
   rw[HE.out]at HB;have HP:Hid (Kj ⟨ah,out⟩ b=Ke ⟨[],out++[65533]⟩ b):=A6 (P6 out hne hf);have HFc:=A6 (HFt.out w (An.refl w));rw[decide_eq_false hf]at HFc;clear hf HFt HM he hne h0 HE;have k0:=hb.cell 0;have k1:=hb.cell 1;have f0:=hb.frozen 0;have f1:=hb.frozen 1;simp only[Ah,Af,Ag]at k0 k1;clear hb ha ho hl f0 f1;go_enter Tryz.func78,Tryz.ntmps78
   go_wp2_with fail
   refine HFc.out.mono ?_
   rintro e w' ⟨rfl,rfl⟩;clear HFc;go_wp2_with fail
   refine HB.out.mono ?_
   rintro e w1 ⟨rfl,hM1,heW⟩;clear HB k0 k1 hnc hcm HltA;have HltA:Hid (∀x∈([]:List Nat),x<256):=A6 (by simp)
   obtain⟨A,n',c,O,q',d,hb,ha,ho⟩:=hM1;obtain rfl:n'=0:=by have:=(Bd.rd ha).len;simp at this;omega
   have hqb2:q'≤1000001:=by have h1:=ho.ints.len;simp at h1;have h2:=HQ.out;omega
   have hnc:=(Bd.rd ha).ncap;have hcm:=(Bd.rd ha).nmax;unfold maxLen at hcm;have HA0:=A6 ha;have HAZ:Hid (∀(w3:World) (row:Option Nat),w1.grownBy w3 row→((Ak A 0 c).ownBlock=none∨(Ak A 0 c).ownBlock≠row)→Bd w3 (g+1) 5 1 A 0 c []):=A6 fun w3 row h1 h2=>Bd.kept ha h1 h2
   have k0:=hb.cell 0;have k1:=hb.cell 1;have f0:=hb.frozen 0;have f1:=hb.frozen 1;simp only[Ah,Af,Ag]at k0 k1;have HW:=A6 (P5 b);by_cases hw0:Gt b=0
   ·rw[hw0]at HW
    have HR:Hid (Kj ⟨ah,out⟩ b=⟨[],(out++[65533])++[65533]⟩):=A6 (by rw[HP.out];unfold Ke;exact if_pos ⟨rfl,hw0⟩)
    have hbl:=hb.lt;have HBB:=A6 hb;have HOO:=A6 ho;clear hw0 HP hb ha;go_wp2_with fail
    refine(HW.out _).mono ?_
    rintro e w' ⟨rfl,rfl⟩;go_wp2_with (at_builtin;refine C6 rfl (.tmp 39) (.tmp 40) 25 rfl w0 (g+1) 3 i0 (.int .i64 0) 1 8 Tryz.underlying25 hi hz0 hz1 hz2 rfl (by decide) O q' d _ rfl ho #[.int .i64 65533] rfl ?_ rfl ?_ ?_ heW (by omega) hbl ?_)
    ·rfl
    ·unfold maxLen;omega
    ·omega
    ·have N1:=trivial;exact K42
   ·have N1:=trivial;exact K8
def Zk (l:List Nat):Yk:=J2 l ⟨[],[]⟩
theorem vB (l:List Nat):Yj (Zk l).ah:=(U3 l [] trivial).1
theorem vC (l:List Nat):(Zk l).out.length≤l.length:=by have:=(U3 l [] trivial).2.2;unfold Zk;simp at this;omega
theorem zW {l:List Nat}(h:∀x∈l,x<256):∀x∈(Zk l).ah,x<256:=by
 obtain⟨p,hp⟩:=aN l [];intro x hx;refine h x ?_
 have:x∈[]++l:=by rw[hp];exact List.mem_append_right _ hx
 simpa using this
theorem qJ (l:List Nat)(b:Nat):Zk (l++[b])=Kj ⟨(Zk l).ah,(Zk l).out⟩ b:=kD l b _
theorem jN {l:List Nat}{k:Nat}(h:k<l.length):l.take (k+1)=l.take k++[gN l k]:=by
 rw[List.take_succ_eq_append_getElem h];simp[gN,List.getElem?_eq_getElem h]
theorem Tl (hs:s.size≤8200):
 Calls Tryz.prog 57 #[.string s] w fun e w'=>∃g,e=.returned (.pointer (some ⟨g,0,none⟩))∧Fi w' g (Zk (Ao s))∧w.heap.size≤g∧An w w':=by
 have HN:=A6 (Dx s);have HLt:=A6 (Pm s);have HM0:Hid (Fi (w.alloc (.cells #[.slice none 0 0,.slice none 0 0] 134)) w.heap.size (Zk [])):=
  A6 ⟨none,0,0,none,0,0,Aq.new _ _ _,Bd.nil _ _ _ _,Av.nil _ _⟩
 go_enter Tryz.func57,Tryz.ntmps57
 go_wp2_with fail
 go_loopw [9] (fun iv wr=>∃k:Nat,k≤s.size∧iv=.int .i64 k∧Hid (Fi wr w.heap.size (Zk ((Ao s).take k)))∧An w wr) (fun iv _=>s.size-(intOf iv).toNat)
 case atStart=>exact⟨0,by omega,rfl,HM0,An.alloc _ _⟩
 case round=>
  clear HM0;obtain⟨k,hk,rfl,hM,he⟩:=hrel;by_cases hlt:k<s.size
  ·have hik:=U6 s k hlt
   have HT:=A6 (Z7 (w0:=w) (b:=gN (Ao s) k) (ah:=(Zk ((Ao s).take k)).ah) (out:=(Zk ((Ao s).take k)).out) hM.out (vB _) (A6 (zW (fun x hx=>HLt.out x (List.mem_of_mem_take hx)))) (gH HLt.out k) he (Aj _) (by have h1:=vC ((Ao s).take k);rw[List.length_take]at h1;omega))
   rw[←qJ,←jN (by rw[HN.out];exact hlt)]at HT
   clear hM;go_wp2_with fail
   refine HT.out.mono ?_
   rintro e w2 ⟨rfl,hM2,he2⟩;have HM2:=A6 hM2;clear HT hM2 he;go_wp2_with fail
   go_roundw
   case rel=>exact⟨k+1,by omega,by go_num,HM2,he2⟩
   case measure=>simp[intOf];omega
  ·obtain rfl:k=s.size:=by omega
   have HM2:Hid (Fi wr w.heap.size (Zk (Ao s))):=A6 (by have:=hM.out;rwa[List.take_of_length_le (by rw[HN.out];exact Aj _)]at this)
   clear hM;go_wp2_with fail
   go_ret
   exact⟨_,rfl,HM2.out,Aj _,he⟩
theorem Ww (hs:s.size≤8200):
 Calls Tryz.prog 56 #[.string s] w fun e w'=>e=.returned (.int .i64 (if(Zk (Ao s)).out.length=0 then 0 else 4))∧An w w':=by
 have HR:=A6 (Tl (w:=w) hs);generalize Zk (Ao s)=m at*;obtain⟨z,hz⟩:∃z:Int,(if m.out.length=0 then 0 else 4)=z:=⟨_,rfl⟩;rw[hz];have HZ:=A6 hz;clear hz;go_enter Tryz.func56,Tryz.ntmps56
 go_wp2_with fail
 refine HR.out.mono ?_
 rintro e w1 ⟨g,rfl,hM,hg,he⟩;obtain⟨A,n,c,O,q,d,hb,ha,ho⟩:=hM;have k1:=hb.cell 1;simp only[Ah,Af,Ag]at k1;have hql:Hid (m.out.length=q):=A6 ho.ints.len;clear HR hb ha ho;by_cases h0:q=0
 ·subst h0
  go_wp2_with fail
  go_ret
  exact⟨Jb (by rw[←HZ.out,if_pos hql.out]),he⟩
 ·have hq:0<q:=by omega
  go_wp2_with fail
  go_ret
  exact⟨Jb (by rw[←HZ.out,if_neg (by rw[hql.out];exact h0)]),he⟩
theorem Yb (hp:Yj ah)(hlt:∀x∈ah,x<256):
 Calls Tryz.prog 56 #[.string (Ef ah)] w fun e w'=>e=.returned (.int .i64 0)∧An w w':=by
 have h:=Ww (s:=Ef ah) (w:=w) (by rw[Xd];have:=Yz hp;omega)
 rw[Jt hlt]at h;unfold Zk at h;rw[gZ hp]at h;exact h
def F3 (ah:List Nat)(l:List Nat):Yk:=J2 l ⟨ah,[]⟩
theorem vD (hp:Yj ah)(l:List Nat):Zk (ah++l)=F3 ah l:=by unfold Zk F3;rw[Rn,gZ hp]
theorem rR (hp:Yj ah)(hlt:∀x∈ah,x<256)(hs:4096<s.size):
 Calls Tryz.prog 39 #[.string (Ef ah),.string s] w fun e w'=>e=.returned (.tuple #[.string ⟨#[]⟩,.slice none 0 0,.int .i64 2])∧An w w':=by
 have HC:=A6 (Yb (w:=w) hp hlt);clear hp hlt;generalize Ef ah=p at*;go_enter Tryz.func39,Tryz.ntmps39
 go_wp2_with fail
 refine HC.out.mono ?_
 rintro e w1 ⟨rfl,he⟩;go_wp2_with fail
 go_ret3
 exact⟨rfl,he⟩
theorem rQ (hp:Yj ah)(hlt:∀x∈ah,x<256)(hs:s.size≤4096):
 Calls Tryz.prog 39 #[.string (Ef ah),.string s] w fun e w'=>∃O q d,e=.returned (.tuple #[.string (Ef (F3 ah (Ao s)).ah),.slice O q d,.int .i64 0])∧Av w' w.heap.size O q d (F3 ah (Ao s)).out∧An w w':=by
 have HC:=A6 (Yb (w:=w) hp hlt);have hz:=Xd ah;have h3:=Yz hp;have HR:Hid (∀wq,Calls Tryz.prog 57 #[.string (Ef ah++s)] wq fun e w'=>∃g,e=.returned (.pointer (some ⟨g,0,none⟩))∧Fi w' g (F3 ah (Ao s))∧wq.heap.size≤g∧An wq w'):=A6 fun wq=>by
  have h:=Tl (s:=Ef ah++s) (w:=wq) (by rw[ByteArray.size_append,hz];omega)
  rwa[qD,Jt hlt,vD hp]at h
 clear hp hlt;generalize F3 ah (Ao s)=m at*;generalize Ef ah=p at*;generalize ah.length=z at*;go_enter Tryz.func39,Tryz.ntmps39
 go_wp2_with fail
 refine HC.out.mono ?_
 rintro e w1 ⟨rfl,he1⟩;clear HC;go_wp2_with fail
 refine(HR.out _).mono ?_
 rintro e w2 ⟨g,rfl,hM,hg,he2⟩;obtain⟨A,n,c,O,q,d,hb,ha,ho⟩:=hM;have k0:=hb.cell 0;have k1:=hb.cell 1;simp only[Ah,Af,Ag]at k0 k1;have hcv:=My (Rd.ext (Bd.rd ha) (An.drew w2));have HO:=A6 ((Av.ext ho (An.drew w2)).lower (show w.heap.size≤g+1 by have:=he1.hsize;omega))
 have hend:=(he1.trans he2).to_drew;clear HR hb ha ho he1 he2 hg;go_wp2_with fail
 go_region_with fail
 all_goals
  go_wp2_with fail
  go_ret3
  exact⟨O,q,d,rfl,HO.out,hend⟩
end
