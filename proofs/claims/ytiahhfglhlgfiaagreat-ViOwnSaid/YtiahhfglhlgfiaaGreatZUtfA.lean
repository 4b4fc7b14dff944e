/-
  Part ZUtfA.
-/
import Derived.Test.YtiahhfglhlgfiaaGreatZFeedM
import Derived.Test.YtiahhfglhlgfiaaGreatZUtfPut
import Derived.Laws.RangeAny
import Derived.Laws.Cover4
import Derived.Deep.RegionHeld3
import Derived.Deep.RegionLaw
import Derived.Laws.BytesString
set_option maxRecDepth 100000
set_option maxHeartbeats 16000000
set_option linter.unusedVariables false
set_option linter.unusedSimpArgs false
namespace Go.Proofs.YtiahhfglhlgfiaaGreat
open Go.RowKit
open _root_.List renaming getElem?_cons_succ→Af,getElem?_cons_zero→Ae,getElem?_eq_getElem→By,getElem?_toArray→Ag,length_map→D8
open Value renaming slice→Aj
open _root_.Nat renaming le_refl→Ai,lt_succ_self→Bx
section
variable {ah:List Nat}{w:World}{s:ByteArray}{A:Option Addr}{n c k g:Nat}
theorem vV {l:List Int}(h:k<l.length):gI l k∈l:=by
 unfold gI;rw[List.getElem?_eq_getElem h];exact List.getElem_mem h
theorem Vj (l:List Nat):(G0 l).size=l.length:=by
 show(G0 l).data.size=_
 unfold G0;simp
def bv (b:Nat):Value:=.int .u8 b
theorem rR:(Tryz.prog.info? 5).map (fun i=>(i.zero,i.size,i.bytes))=some (some (.int .u8 0),1,1):=by kernel_rfl
theorem gJ (b:Nat)(w:World):Calls Tryz.prog 98 #[.int .u8 b] w fun e w'=>e=.returned (.tuple #[.int .u8 (Se b),.int .u8 (Sf b)])∧w=w':=by
 by_cases c1:b=224
 ·subst c1
  exact I14
 by_cases c2:b=237
 ·subst c2
  exact I14
 by_cases c3:b=240
 ·subst c3
  exact I14
 by_cases c4:b=244
 ·subst c4
  exact I14
 have e1:Se b=128:=by unfold Se;rw[if_neg c1,if_neg c3]
 have e2:Sf b=191:=by unfold Sf;rw[if_neg c2,if_neg c4]
 rw[e1,e2];have k1:((b:Int)==224)=false:=by simp;omega
 have k2:((b:Int)==237)=false:=by simp;omega
 have k3:((b:Int)==240)=false:=by simp;omega
 have k4:((b:Int)==244)=false:=by simp;omega
 clear c1 c2 c3 c4 e1 e2;exact I14
theorem Ml (b:Nat)(w:World):Calls Tryz.prog 75 #[.int .u8 b] w fun e w'=>e=.returned (.int .i64 (Hq b))∧w=w':=by
 have key:∀z:Nat,Hq b=z→Hq b=z:=fun _ h=>h
 by_cases c1:b<128
 ·rw[yZ.2 c1]
  exact I13
 by_cases c2:b<194
 ·rw[show Hq b=0 by unfold Hq;rw[if_neg c1,if_neg (by omega),if_neg (by omega),if_neg (by omega)]]
  have k1:¬(194:Int)≤b:=by omega
  have k2:¬(224:Int)≤b:=by omega
  have k3:¬(240:Int)≤b:=by omega
  exact I13
 by_cases c3:b<224
 ·rw[yY.2 ⟨by omega,by omega⟩]
  have k1:(194:Int)≤b:=by omega
  have k2:(b:Int)≤223:=by omega
  exact I13
 by_cases c4:b<240
 ·rw[yX.2 ⟨by omega,by omega⟩]
  have k1:(194:Int)≤b:=by omega
  have k2:¬(b:Int)≤223:=by omega
  have k3:(224:Int)≤b:=by omega
  have k4:(b:Int)≤239:=by omega
  exact I13
 by_cases c5:b<245
 ·rw[yW.2 ⟨by omega,by omega⟩]
  have k1:(194:Int)≤b:=by omega
  have k2:¬(b:Int)≤223:=by omega
  have k3:(224:Int)≤b:=by omega
  have k4:¬(b:Int)≤239:=by omega
  have k5:(240:Int)≤b:=by omega
  have k6:(b:Int)≤244:=by omega
  exact I13
 ·rw[show Hq b=0 by unfold Hq;rw[if_neg c1,if_neg (by omega),if_neg (by omega),if_neg (by omega)]]
  have k1:(194:Int)≤b:=by omega
  have k2:¬(b:Int)≤223:=by omega
  have k3:(224:Int)≤b:=by omega
  have k4:¬(b:Int)≤239:=by omega
  have k5:(240:Int)≤b:=by omega
  have k6:¬(b:Int)≤244:=by omega
  exact I13
theorem Yl (h:Rd w 1 A n c (ah.map bv))(hk:k<n):∃ad,A=some ad∧w.cell? (ad.add k)=some (.int .u8 (gN ah k)):=by
 obtain⟨ad,e,hc⟩:=h.at_ hk;have hl:ah.length=n:=by have:=h.len;rw[D8]at this;omega
 refine⟨ad,e,hc k _ ?_⟩
 rw[List.getElem?_map,By (by omega)]
 simp[bv,gN,By (show k<ah.length by omega)]
theorem Y1 {b:Nat}(h:Rd w 1 A n c (ah.map bv)):
 Calls Tryz.prog 73 #[.slice A n c,.int .u8 b] w fun e w'=>e=.returned (.bool (decide (Dz ah b)))∧w=w':=by
 have hl:ah.length=n:=by have:=h.len;rw[D8]at this;omega
 have hnc:=h.ncap;have hcm:=h.nmax;unfold maxLen at hcm;by_cases h1:n=1
 ·subst h1
  obtain⟨ad,rfl,hc⟩:=Yl h (k:=0) (by omega)
  rw[Dw]at hc;have HS:=A4 (gJ (gN ah 0));have HE:Hid (Dz ah b↔Se (gN ah 0)≤b∧b≤Sf (gN ah 0)):=A4 (by unfold Dz;rw[if_pos hl])
  clear h hl;generalize gN ah 0=a at*;generalize Se a=x at*;generalize Sf a=y at*;go_enter Tryz.func73,Tryz.ntmps73
  go_wp2_with fail
  refine(HS.out _).mono ?_
  rintro e w' ⟨rfl,rfl⟩;by_cases k1:x≤b
  ·have k1i:(x:Int)≤(b:Int):=by omega
   by_cases k2:b≤y
   ·have k2i:(b:Int)≤(y:Int):=by omega
    have hE:=A4 (decide_eq_true (HE.out.2 ⟨k1,k2⟩));clear HS HE;exact I30
   ·have k2i:¬(b:Int)≤(y:Int):=by omega
    have hE:=A4 (decide_eq_false (fun hh=>k2 (HE.out.1 hh).2))
    clear HS HE;exact I30
  ·have k1i:¬(x:Int)≤(b:Int):=by omega
   have hE:=A4 (decide_eq_false (fun hh=>k1 (HE.out.1 hh).1))
   clear HS HE;exact I30
 ·have HE:Hid (Dz ah b↔128≤b∧b≤191):=A4 (by unfold Dz;rw[if_neg (by omega)])
  have hn1:((n:Int)==1)=false:=by simp;omega
  clear h;by_cases k1:128≤b
  ·have k1i:(128:Int)≤(b:Int):=by omega
   by_cases k2:b≤191
   ·have k2i:(b:Int)≤191:=by omega
    have hE:=A4 (decide_eq_true (HE.out.2 ⟨k1,k2⟩));exact I29
   ·have k2i:¬(b:Int)≤191:=by omega
    have hE:=A4 (decide_eq_false (fun hh=>k2 (HE.out.1 hh).2))
    exact I29
  ·have k1i:¬(128:Int)≤(b:Int):=by omega
   have hE:=A4 (decide_eq_false (fun hh=>k1 (HE.out.1 hh).1))
   exact I29
theorem Ay.apart {base base' e e' z z' n n' c c':Nat}{A A':Option Addr}{xs ys:List Value}(h:Ay w base e z A n c xs)(h':Ay w base' e' z' A' n' c' ys)(hne:e≠e'):
 (Aj A n c).ownBlock=none∨(Aj A n c).ownBlock≠(Aj A' n' c').ownBlock:=by
 rcases h.2 with⟨hv,_⟩|⟨g,cap,cur,hv,_,hg,_⟩
 ·left;rw[hv];rfl
 ·right
  rcases h'.2 with⟨hv',_⟩|⟨g',cap',cur',hv',_,hg',_⟩
  ·rw[hv,hv'];simp[Value.ownBlock]
  ·rw[hv,hv']
   intro e;simp[Value.ownBlock]at e;subst e;rw[hg]at hg';injection hg' with hg';injection hg' with _ h2;exact hne h2
def Es (w:World)(g:Nat)(m:Wx):Prop:=
 ∃A n c O q d,An w g 83 #[.slice A n c,.slice O q d]∧Ay w (g+1) 5 1 A n c (m.ah.map bv)∧Av w (g+1) O q d m.out
theorem Es.ext {w w':World}{m:Wx}(h:Es w g m)(he:Al w w'):Es w' g m:=by
 obtain⟨A,n,c,O,q,d,h1,h2,h3⟩:=h;exact⟨A,n,c,O,q,d,h1.ext he,Ay.ext h2 he,Av.ext h3 he⟩
theorem Lu (hr:Rd w 1 A n c (ah.map bv)):
 (convert 81 9 (.slice A n c)).run Tryz.prog w=.ok (.string (G0 ah)) w:=by
 have hl:ah.length=n:=by have:=hr.len;rw[D8]at this;omega
 have hfold:∀(l:List Nat) (s:ByteArray),(l.map (fun b:Nat=>(b:Int))).foldl (fun r n=>r.push (UInt8.ofNat n.toNat)) s=s++G0 l:=by
  intro l
  induction l with
  |nil=>intro s;have:G0 []=ByteArray.empty:=rfl;rw[this];simp
  |cons b l ih=>
   intro s;rw[List.map_cons,List.foldl_cons,ih];apply ByteArray.ext
   simp[G0,ByteArray.data_append]
 rw[run_convert_bytes_string w _ _ 5 _ _ _ Tryz.underlying81 Tryz.underlying5 Tryz.underlying9];cases A with
 |none=>
  have h0:n=0:=by
   rcases Nat.eq_zero_or_pos n with h|h
   ·exact h
   ·obtain⟨ad,e,_⟩:=hr.at_ (k:=0) h;cases e
  subst h0;obtain rfl:ah=[]:=List.length_eq_zero_iff.1 hl
  rfl
 |some a=>
  have hc:∀j,j<n→w.cell? (a.add j)=some (.int .u8 ((ah.map (fun b:Nat=>(b:Int))).getD j 0)):=by
   intro j hj;obtain⟨a',e,hc⟩:=Yl hr hj;injection e with e;subst e;rw[hc];simp[gN,List.getD,List.getElem?_eq_getElem (show j<ah.length by omega)]
  have hload:=run_loadCells (P:=Tryz.prog) w a n (fun j=>.int .u8 ((ah.map (fun b:Nat=>(b:Int))).getD j 0)) hc
  have hrange:=range_map_take (Value.int .u8) (ah.map (fun b:Nat=>(b:Int))) n (by rw[D8];omega)
  rw[List.take_of_length_le (by rw[D8];omega)]at hrange
  rw[run_bytesToString w a n c (ah.map (fun b:Nat=>(b:Int))) (by rw[hload,hrange]),hfold]
  simp
theorem jR {w0 w:World}{m:Wx}(h:Es w g m)(he:Al w0 w)(hg:w0.heap.size≤g)(hq:m.out.length≤1000000):
 Calls Tryz.prog 74 #[.pointer (some ⟨g,0,none⟩)] w fun e w'=>e=.returned (.tuple #[])∧Es w' g (Xa m)∧Al w0 w':=by
 obtain⟨i0,hi,hz0,hz1,hz2⟩:=info_parts Bz;have HM:=A4 h;obtain⟨A,n,c,O,q,d,hb,ha,ho⟩:=h;have hl:m.ah.length=n:=by have:=(Ay.rd ha).len;rw[D8]at this;omega
 have hql:m.out.length=q:=ho.ints.len;have k0:=hb.cell 0;have k1:=hb.cell 1;have f0:=hb.frozen 0;have f1:=hb.frozen 1;simp only[Ag,Ae,Af]at k0 k1;have hlt:=hb.lt;by_cases h0:n=0
 ·have HE:Hid (Xa m=m):=A4 (by unfold Xa;rw[if_pos (by omega)])
  subst h0;clear hb ha ho hl hql f0 f1;go_enter Tryz.func74,Tryz.ntmps74
  go_wp2_with fail
  go_end0
  exact⟨rfl,by rw[HE.out];exact HM.out,he⟩
 ·have HE:Hid (Xa m=⟨[],m.out++[65533]⟩):=A4 (by unfold Xa;rw[if_neg (by omega)])
  have hn0:0<n:=by omega
  have hq2:q≤1000000:=by omega
  have a1:=Al.cell (Al.alloc w (.cells #[.int .i64 65533] 3)) k1;have HB:=A4 hb;have HO:=A4 ho;clear hb ha ho hl hql hq h0 HM;go_enter Tryz.func74,Tryz.ntmps74
  have hown:=HO.out;go_wp2_with (at_builtin;refine Ci rfl (.tmp 12) (.tmp 13) 27 rfl w0 (g+1) 3 i0 (.int .i64 0) 1 8 Tryz.underlying27 hi hz0 hz1 hz2 rfl (by decide) O q d _ rfl hown #[.int .i64 65533] rfl ?_ rfl ?_ ?_ he (by omega) (by omega) ?_)
  ·rfl
  ·unfold maxLen;omega
  ·omega
  ·intro O2 d2 w3 hO2 hgr hor hx3
   have hne:(Aj O q d).ownBlock≠some g:=fun e=>by have:=(Ay.blk HO.out g e).1;omega
   have hb3:=HB.out.grown hgr (fun e=>hne e.symm)
   have c0:=hb3.cell 0;have c1:=hb3.cell 1;have f0:=hb3.frozen 0;have f1:=hb3.frozen 1;simp only[Ag,Ae,Af]at c0 c1;have hb4:An (w3.setCell ⟨g,1,none⟩ (.slice O2 (q+1) d2)) g 83 #[.slice A n c,.slice O2 (q+1) d2]:=by simpa using hb3.set_ 1 (.slice O2 (q+1) d2)
   have f4:=hb4.frozen 0;have c4:=hb4.cell 0;simp only[Ag,Ae,Af]at c4;have hb5:An ((w3.setCell ⟨g,1,none⟩ (.slice O2 (q+1) d2)).setCell ⟨g,0,none⟩ (.slice none 0 0)) g 83 #[.slice none 0 0,.slice O2 (q+1) d2]:=by simpa using hb4.set_ 0 (.slice none 0 0)
   have hO5:Av ((w3.setCell ⟨g,1,none⟩ (.slice O2 (q+1) d2)).setCell ⟨g,0,none⟩ (.slice none 0 0)) (g+1) O2 (q+1) d2 (m.out++[65533]):=by
    exact I135
   have hE5:=(hx3.setCell (p:=⟨g,1,none⟩) hg (.slice O2 (q+1) d2)).setCell (p:=⟨g,0,none⟩) hg (.slice none 0 0);have HF:Hid (Es ((w3.setCell ⟨g,1,none⟩ (.slice O2 (q+1) d2)).setCell ⟨g,0,none⟩ (.slice none 0 0)) g ⟨[],m.out++[65533]⟩):=A4 ⟨none,0,0,O2,q+1,d2,hb5,Ay.nil _ _ _ _,hO5⟩;have HX:=A4 hE5;clear hO2 hgr hor hx3 hb3 hb4 hb5 hO5 hE5 hown;go_wp2_with fail
   go_end0
   exact⟨rfl,by rw[HE.out];exact HF.out,HX.out⟩
theorem Xl (h:Ww ah):ah.length≤3:=by
 match ah,h with
 |[],_=>simp
 |[a],_=>simp
 |[a,b],_=>simp
 |[a,b,c],_=>simp
theorem Xs {w0 w:World}{out:List Int}{b:Nat}(h:Es w g ⟨ah,out⟩)(hp:Ww ah)(HltA:Hid (∀x∈ah,x<256))(hb256:b<256)(he:Al w0 w)(hg:w0.heap.size≤g)(hq:out.length≤1000000):
 Calls Tryz.prog 41 #[.pointer (some ⟨g,0,none⟩),.int .u8 b] w fun e w'=>e=.returned (.tuple #[])∧Es w' g (Jm ⟨ah,out⟩ b)∧Al w0 w':=by
 obtain⟨i0,hi,hz0,hz1,hz2⟩:=info_parts Bz;obtain⟨i8,hi8,hy0,hy1,hy2⟩:=info_parts rR;have hal:=Xl hp;have HM:=A4 h;obtain⟨A,n,c,O,q,d,hb,ha,ho⟩:=h;have hl:ah.length=n:=by have:=(Ay.rd ha).len;rw[D8]at this;simp at this;omega
 have hql:out.length=q:=ho.ints.len;have hqb:q≤1000000:=by omega
 have hnc:=(Ay.rd ha).ncap;have hcm:=(Ay.rd ha).nmax;unfold maxLen at hcm;have HQ:Hid (out.length≤1000000):=A4 (by omega)
 clear hp hql hq;by_cases h0:n=0
 ·subst h0
  obtain rfl:ah=[]:=List.length_eq_zero_iff.1 hl;have HP:Hid (Jm ⟨[],out⟩ b=Jx ⟨[],out⟩ b):=A4 (Mx out b);have heW:=he;have HA0:=A4 ha;have HAZ:Hid (∀(w3:World) (row:Option Nat),w.grownBy w3 row→((Aj A 0 c).ownBlock=none∨(Aj A 0 c).ownBlock≠row)→Ay w3 (g+1) 5 1 A 0 c []):=A4 fun w3 row h1 h2=>Ay.kept ha h1 h2
  clear hl HM he;have k0:=hb.cell 0;have k1:=hb.cell 1;have f0:=hb.frozen 0;have f1:=hb.frozen 1;simp only[Ag,Ae,Af]at k0 k1;go_enter Tryz.func41,Tryz.ntmps41
  have HW:=A4 (Ml b);by_cases hw0:Hq b=0
  ·rw[hw0]at HW
   have HR:Hid (Jm ⟨[],out⟩ b=⟨[],out++[65533]⟩):=A4 (by rw[HP.out];unfold Jx;exact if_pos ⟨rfl,hw0⟩)
   have hbl:=hb.lt;have HBB:=A4 hb;have HOO:=A4 ho;clear hw0 HP hb ha;go_wp2_with fail
   refine(HW.out _).mono ?_
   rintro e w' ⟨rfl,rfl⟩;go_wp2_with (at_builtin;refine Ci rfl (.tmp 39) (.tmp 40) 27 rfl w0 (g+1) 3 i0 (.int .i64 0) 1 8 Tryz.underlying27 hi hz0 hz1 hz2 rfl (by decide) O q d _ rfl ho #[.int .i64 65533] rfl ?_ rfl ?_ ?_ heW (by omega) hbl ?_)
   ·rfl
   ·unfold maxLen;omega
   ·omega
   ·have N0:=trivial;exact zF
  ·have N0:=trivial;exact K8

 ·have hn1:0<n:=by omega
  have hne:ah≠[]:=fun e=>by rw[e]at hl;simp at hl;omega
  have HFt:=A4 (fun wq he'=>Y1 (b:=b) (w:=wq) (Rd.ext (Ay.rd ha) (w':=wq) he'))
  by_cases hf:Dz ah b
  ·have HP:Hid (Jm ⟨ah,out⟩ b=Jx ⟨ah,out⟩ b):=A4 (by unfold Jm;rw[if_neg (fun hh=>hh.2 hf)])
   have HFc:=A4 (HFt.out w (Al.refl w));rw[decide_eq_true hf]at HFc;have hnb:¬(ah.length=0∧Hq b=0):=fun h=>by omega
   have heW:=he;clear hf HFt HM he hne h0;have k0:=hb.cell 0;have k1:=hb.cell 1;have f0:=hb.frozen 0;have f1:=hb.frozen 1;simp only[Ag,Ae,Af]at k0 k1;go_enter Tryz.func41,Tryz.ntmps41
   go_wp2_with fail
   refine HFc.out.mono ?_
   rintro e w' ⟨rfl,rfl⟩;have hn3:n≤3:=by omega
   clear HFc hl;have Hfull:Hid ((ah++[b]).length=Hq (gN (ah++[b]) 0)→Jm ⟨ah,out⟩ b=⟨[],out++[(Gq (ah++[b]):Int)]⟩):=A4 fun h=>by
    exact I91
   have Hpart:Hid (¬(ah++[b]).length=Hq (gN (ah++[b]) 0)→Jm ⟨ah,out⟩ b=⟨ah++[b],out⟩):=A4 fun h=>by
    rw[HP.out];unfold Jx;rw[if_neg hnb];exact if_neg h
   have Hlt:Hid (∀x∈ah++[b],x<256):=A4 (by
    intro x hx;rcases List.mem_append.1 hx with hx|hx
    ·exact HltA.out x hx
    ·obtain rfl:=List.mem_singleton.1 hx;exact hb256)
   have hap:=Ay.apart ho ha (by decide)
   have hnA:(Aj A n c).ownBlock≠some g:=fun e=>by have:=(Ay.blk ha g e).1;omega
   have hbl:=hb.lt;have HBB:=A4 hb;have HOO:=A4 ho;have HAP:=A4 hap;have HNA:=A4 hnA;clear hap hnA hb ho HP hnb;go_wp2_with (at_builtin;refine Ci rfl (.tmp 48) (.tmp 50) 81 rfl w0 (g+1) 5 i8 (.int .u8 0) 1 1 Tryz.underlying81 hi8 hy0 hy1 hy2 rfl (by decide) A n c _ rfl ha #[.int .u8 b] rfl ?_ rfl ?_ ?_ heW (by omega) hbl ?_)
   ·rfl
   ·unfold maxLen;omega
   ·omega
   ·intro A2 c4 w3 hA2 hgr hor hx3
    have hb3:=HBB.out.grown hgr (fun e=>HNA.out e.symm)
    have c0:=hb3.cell 0;have f0:=hb3.frozen 0;simp only[Ag,Ae,Af]at c0;have hO3:=Ay.kept HOO.out hgr HAP.out;have hb4:An (w3.setCell ⟨g,0,none⟩ (.slice A2 (n+1) c4)) g 83 #[.slice A2 (n+1) c4,.slice O q d]:=by simpa using hb3.set_ 0 (.slice A2 (n+1) c4)
    have hA4:Ay (w3.setCell ⟨g,0,none⟩ (.slice A2 (n+1) c4)) (g+1) 5 1 A2 (n+1) c4 ((ah++[b]).map bv):=by
     have:=Ay.setCell hA2 (p:=⟨g,0,none⟩) (Bx g) (.slice A2 (n+1) c4)
     simpa[bv]using this
    have ho4:Av (w3.setCell ⟨g,0,none⟩ (.slice A2 (n+1) c4)) (g+1) O q d out:=Ay.setCell hO3 (p:=⟨g,0,none⟩) (Bx g) (.slice A2 (n+1) c4);have hE4:=hx3.setCell (p:=⟨g,0,none⟩) hg (.slice A2 (n+1) c4);have hgz:=hb3.lt;clear hA2 hgr hor hx3 hb3 hO3 HBB HOO HAP HNA ha heW k0 k1 f1;go_wp2_with fail
    clear c0 f0
    revert hb4 hA4 ho4 hE4
    generalize w3.setCell ⟨g,0,none⟩ (.slice A2 (n+1) c4)=w4;intro hb4 hA4 ho4 hE4;obtain⟨bs,hbs⟩:∃bs,ah++[b]=bs:=⟨_,rfl⟩;rw[hbs]at hA4 Hfull Hpart Hlt;clear hbs;have hpl:bs.length=(n+1):=by have:=(Ay.rd hA4).len;rw[D8]at this;omega
    obtain⟨ad,hAe,hca⟩:=Yl (Ay.rd hA4) (k:=0) (by omega)
    rw[Dw]at hca;subst hAe;have k0:=hb4.cell 0;have k1:=hb4.cell 1;have f0:=hb4.frozen 0;have f1:=hb4.frozen 1;simp only[Ag,Ae,Af]at k0 k1;have HWh:=A4 (Ml (gN bs 0));have hcv:=Lu (Rd.ext (Ay.rd hA4) (Al.drew w4));have HG:Hid (∀wq,Calls Tryz.prog 76 #[.string (G0 bs)] wq fun e w'=>e=.returned (.tuple #[.int .i64 (Gq bs),.int .i64 (Jq bs),.int .i64 (Gp bs)])∧wq=w'):=A4 fun wq=>by
     exact I84
    have HB4:=A4 hb4;have HA4:=A4 hA4;have HO4:=A4 ho4;have HE4:=A4 hE4;have hpc:=(Ay.rd hA4).ncap;have hpm:=(Ay.rd hA4).nmax;unfold maxLen at hpm;have hg4:=hb4.lt;have hpl2:=A4 hpl;clear hb4 hA4 ho4 hE4 hpl;generalize hwz:Hq (gN bs 0)=wz at*;generalize gN bs 0=a0 at*;have Hwz:=A4 hwz;clear hwz;go_region_held3 (fun w'=>w'.cell? ⟨g,0,none⟩=some (.slice (some ad) (n+1) c4)∧w'.cell? ad=some (.int .u8 a0)) (first|assumption|exact⟨k0,hca⟩)
     ((go_at_call 75;refine(HWh.out _).mono ?_;rintro e w' ⟨rfl,rfl⟩))
    by_cases hfull:(n+1)=wz
    ·have hfi:(((n:Int)+1)==(wz:Int))=true:=by simp;omega
     have HR:=A4 (Hfull.out (by rw[hpl2.out];exact hfull))
     generalize Gq bs=gc at*;generalize Jq bs=gw at*;generalize Gp bs=ge at*;clear hfull;go_wp2_with fail
     refine(HG.out _).mono ?_
     rintro e w' ⟨rfl,rfl⟩;have hown:=Av.ext HO4.out (Al.drew w4);have hE5:=HE4.out.to_drew;have hg5:g+1≤w4.drew.heap.size:=hg4;clear hcv hca;go_wp2_with (at_builtin;refine Ci rfl (.tmp 81) (.tmp 83) 27 rfl w0 (g+1) 3 i0 (.int .i64 0) 1 8 Tryz.underlying27 hi hz0 hz1 hz2 rfl (by decide) O q d _ rfl hown #[.int .i64 gc] rfl ?_ rfl ?_ ?_ hE5 (by omega) hg5 ?_)
     ·rfl
     ·unfold maxLen;omega
     ·omega
     ·intro O2 d2 w5 hO2 hgr hor hx3
      have hne:(Aj O q d).ownBlock≠some g:=fun e=>by have:=(Ay.blk HO4.out g e).1;omega
      have hb5:=(HB4.out.drewN 1).grown hgr (fun e=>hne e.symm)
      have c0:=hb5.cell 0;have c1:=hb5.cell 1;have f0:=hb5.frozen 0;have f1:=hb5.frozen 1;simp only[Ag,Ae,Af]at c0 c1;have hb6:An (w5.setCell ⟨g,1,none⟩ (.slice O2 (q+1) d2)) g 83 #[.slice (some ad) (n+1) c4,.slice O2 (q+1) d2]:=by simpa using hb5.set_ 1 (.slice O2 (q+1) d2)
      exact I4
    ·have hfi:(((n:Int)+1)==(wz:Int))=false:=by simp;omega
     have HR:=A4 (Hpart.out (by rw[hpl2.out];exact hfull))
     have HF:Hid (Es w4.drew g ⟨bs,out⟩):=A4 ⟨some ad,(n+1),c4,O,q,d,HB4.out.drewN 1,Ay.ext HA4.out (Al.drew w4),Av.ext HO4.out (Al.drew w4)⟩;clear hfull hcv hca;go_wp2_with fail
     go_end0
     exact⟨rfl,by rw[HR.out];exact HF.out,HE4.out.to_drew⟩
  ·have HB:=A4 (jR HM.out he hg HQ.out)
   have HE:Hid (Xa ⟨ah,out⟩=⟨[],out++[65533]⟩):=A4 (by unfold Xa;exact if_neg (by show ¬ah.length=0;omega))
   rw[HE.out]at HB;have HP:Hid (Jm ⟨ah,out⟩ b=Jx ⟨[],out++[65533]⟩ b):=A4 (Mm out hne hf);have HFc:=A4 (HFt.out w (Al.refl w));rw[decide_eq_false hf]at HFc;clear hf HFt HM he hne h0 HE;have k0:=hb.cell 0;have k1:=hb.cell 1;have f0:=hb.frozen 0;have f1:=hb.frozen 1;simp only[Ag,Ae,Af]at k0 k1;clear hb ha ho hl f0 f1;go_enter Tryz.func41,Tryz.ntmps41
   go_wp2_with fail
   refine HFc.out.mono ?_
   rintro e w' ⟨rfl,rfl⟩;clear HFc;go_wp2_with fail
   refine HB.out.mono ?_
   rintro e w1 ⟨rfl,hM1,heW⟩;clear HB k0 k1 hnc hcm HltA;have HltA:Hid (∀x∈([]:List Nat),x<256):=A4 (by simp)
   obtain⟨A,n',c,O,q',d,hb,ha,ho⟩:=hM1;obtain rfl:n'=0:=by have:=(Ay.rd ha).len;simp at this;omega
   have hqb2:q'≤1000001:=by have h1:=ho.ints.len;simp at h1;have h2:=HQ.out;omega
   have hnc:=(Ay.rd ha).ncap;have hcm:=(Ay.rd ha).nmax;unfold maxLen at hcm;have HA0:=A4 ha;have HAZ:Hid (∀(w3:World) (row:Option Nat),w1.grownBy w3 row→((Aj A 0 c).ownBlock=none∨(Aj A 0 c).ownBlock≠row)→Ay w3 (g+1) 5 1 A 0 c []):=A4 fun w3 row h1 h2=>Ay.kept ha h1 h2
   have k0:=hb.cell 0;have k1:=hb.cell 1;have f0:=hb.frozen 0;have f1:=hb.frozen 1;simp only[Ag,Ae,Af]at k0 k1;have HW:=A4 (Ml b);by_cases hw0:Hq b=0
   ·rw[hw0]at HW
    have HR:Hid (Jm ⟨ah,out⟩ b=⟨[],(out++[65533])++[65533]⟩):=A4 (by rw[HP.out];unfold Jx;exact if_pos ⟨rfl,hw0⟩)
    have hbl:=hb.lt;have HBB:=A4 hb;have HOO:=A4 ho;clear hw0 HP hb ha;go_wp2_with fail
    refine(HW.out _).mono ?_
    rintro e w' ⟨rfl,rfl⟩;go_wp2_with (at_builtin;refine Ci rfl (.tmp 39) (.tmp 40) 27 rfl w0 (g+1) 3 i0 (.int .i64 0) 1 8 Tryz.underlying27 hi hz0 hz1 hz2 rfl (by decide) O q' d _ rfl ho #[.int .i64 65533] rfl ?_ rfl ?_ ?_ heW (by omega) hbl ?_)
    ·rfl
    ·unfold maxLen;omega
    ·omega
    ·have N1:=trivial;exact zF
   ·have N1:=trivial;exact K8
def Y9 (l:List Nat):Wx:=Ji l ⟨[],[]⟩
theorem rE (l:List Nat):Ww (Y9 l).ah:=(Sp l [] trivial).1
theorem rF (l:List Nat):(Y9 l).out.length≤l.length:=by have:=(Sp l [] trivial).2.2;unfold Y9;simp at this;omega
theorem vI {l:List Nat}(h:∀x∈l,x<256):∀x∈(Y9 l).ah,x<256:=by
 obtain⟨p,hp⟩:=Yz l [];intro x hx;refine h x ?_
 have:x∈[]++l:=by rw[hp];exact List.mem_append_right _ hx
 simpa using this
theorem nD (l:List Nat)(b:Nat):Y9 (l++[b])=Jm ⟨(Y9 l).ah,(Y9 l).out⟩ b:=gO l b _
theorem fU {l:List Nat}(h:k<l.length):l.take (k+1)=l.take k++[gN l k]:=by
 rw[List.take_succ_eq_append_getElem h];simp[gN,List.getElem?_eq_getElem h]
theorem Ry (hs:s.size≤8200):
 Calls Tryz.prog 25 #[.string s] w fun e w'=>∃g,e=.returned (.pointer (some ⟨g,0,none⟩))∧Es w' g (Y9 (Ao s))∧w.heap.size≤g∧Al w w':=by
 have HN:=A4 (Ho s);have HLt:=A4 (Sr s);have HM0:Hid (Es (w.alloc (.cells #[.slice none 0 0,.slice none 0 0] 83)) w.heap.size (Y9 [])):=
  A4 ⟨none,0,0,none,0,0,An.new _ _ _,Ay.nil _ _ _ _,Av.nil _ _⟩
 go_enter Tryz.func25,Tryz.ntmps25
 go_wp2_with fail
 go_loopw [9] (fun iv wr=>∃k:Nat,k≤s.size∧iv=.int .i64 k∧Hid (Es wr w.heap.size (Y9 ((Ao s).take k)))∧Al w wr) (fun iv _=>s.size-(intOf iv).toNat)
 case atStart=>exact⟨0,by omega,rfl,HM0,Al.alloc _ _⟩
 case round=>
  clear HM0;obtain⟨k,hk,rfl,hM,he⟩:=hrel;by_cases hlt:k<s.size
  ·have hik:=Ss s k hlt
   have HT:=A4 (Xs (w0:=w) (b:=gN (Ao s) k) (ah:=(Y9 ((Ao s).take k)).ah) (out:=(Y9 ((Ao s).take k)).out) hM.out (rE _) (A4 (vI (fun x hx=>HLt.out x (List.mem_of_mem_take hx)))) (dY HLt.out k) he (Ai _) (by have h1:=rF ((Ao s).take k);rw[List.length_take]at h1;omega))
   rw[←nD,←fU (by rw[HN.out];exact hlt)]at HT
   clear hM;go_wp2_with fail
   refine HT.out.mono ?_
   rintro e w2 ⟨rfl,hM2,he2⟩;have HM2:=A4 hM2;clear HT hM2 he;go_wp2_with fail
   go_roundw
   case rel=>exact⟨k+1,by omega,by go_num,HM2,he2⟩
   case measure=>simp[intOf];omega
  ·obtain rfl:k=s.size:=by omega
   have HM2:Hid (Es wr w.heap.size (Y9 (Ao s))):=A4 (by have:=hM.out;rwa[List.take_of_length_le (by rw[HN.out];exact Ai _)]at this)
   clear hM;go_wp2_with fail
   go_ret
   exact⟨_,rfl,HM2.out,Ai _,he⟩
theorem V5 (hs:s.size≤8200):
 Calls Tryz.prog 24 #[.string s] w fun e w'=>e=.returned (.int .i64 (if(Y9 (Ao s)).out.length=0 then 0 else 4))∧Al w w':=by
 have HR:=A4 (Ry (w:=w) hs);generalize Y9 (Ao s)=m at*;obtain⟨z,hz⟩:∃z:Int,(if m.out.length=0 then 0 else 4)=z:=⟨_,rfl⟩;rw[hz];have HZ:=A4 hz;clear hz;go_enter Tryz.func24,Tryz.ntmps24
 go_wp2_with fail
 refine HR.out.mono ?_
 rintro e w1 ⟨g,rfl,hM,hg,he⟩;obtain⟨A,n,c,O,q,d,hb,ha,ho⟩:=hM;have k1:=hb.cell 1;simp only[Ag,Ae,Af]at k1;have hql:Hid (m.out.length=q):=A4 ho.ints.len;clear HR hb ha ho;by_cases h0:q=0
 ·subst h0
  go_wp2_with fail
  go_ret
  exact⟨Hj (by rw[←HZ.out,if_pos hql.out]),he⟩
 ·have hq:0<q:=by omega
  go_wp2_with fail
  go_ret
  exact⟨Hj (by rw[←HZ.out,if_neg (by rw[hql.out];exact h0)]),he⟩
theorem Wn (hp:Ww ah)(hlt:∀x∈ah,x<256):
 Calls Tryz.prog 24 #[.string (G0 ah)] w fun e w'=>e=.returned (.int .i64 0)∧Al w w':=by
 have h:=V5 (s:=G0 ah) (w:=w) (by rw[Vj];have:=Xl hp;omega)
 rw[Re hlt]at h;unfold Y9 at h;rw[eK hp]at h;exact h
def G3 (ah:List Nat)(l:List Nat):Wx:=Ji l ⟨ah,[]⟩
theorem rG (hp:Ww ah)(l:List Nat):Y9 (ah++l)=G3 ah l:=by unfold Y9 G3;rw[Z0,eK hp]
theorem oG (hp:Ww ah)(hlt:∀x∈ah,x<256)(hs:4096<s.size):
 Calls Tryz.prog 12 #[.string (G0 ah),.string s] w fun e w'=>e=.returned (.tuple #[.string ⟨#[]⟩,.slice none 0 0,.int .i64 2])∧Al w w':=by
 have HC:=A4 (Wn (w:=w) hp hlt);clear hp hlt;generalize G0 ah=p at*;go_enter Tryz.func12,Tryz.ntmps12
 go_wp2_with fail
 refine HC.out.mono ?_
 rintro e w1 ⟨rfl,he⟩;go_wp2_with fail
 go_ret3
 exact⟨rfl,he⟩
theorem oF (hp:Ww ah)(hlt:∀x∈ah,x<256)(hs:s.size≤4096):
 Calls Tryz.prog 12 #[.string (G0 ah),.string s] w fun e w'=>∃O q d,e=.returned (.tuple #[.string (G0 (G3 ah (Ao s)).ah),.slice O q d,.int .i64 0])∧Av w' w.heap.size O q d (G3 ah (Ao s)).out∧Al w w':=by
 have HC:=A4 (Wn (w:=w) hp hlt);have hz:=Vj ah;have h3:=Xl hp;have HR:Hid (∀wq,Calls Tryz.prog 25 #[.string (G0 ah++s)] wq fun e w'=>∃g,e=.returned (.pointer (some ⟨g,0,none⟩))∧Es w' g (G3 ah (Ao s))∧wq.heap.size≤g∧Al wq w'):=A4 fun wq=>by
  have h:=Ry (s:=G0 ah++s) (w:=wq) (by rw[ByteArray.size_append,hz];omega)
  rwa[mX,Re hlt,rG hp]at h
 clear hp hlt;generalize G3 ah (Ao s)=m at*;generalize G0 ah=p at*;generalize ah.length=z at*;go_enter Tryz.func12,Tryz.ntmps12
 go_wp2_with fail
 refine HC.out.mono ?_
 rintro e w1 ⟨rfl,he1⟩;clear HC;go_wp2_with fail
 refine(HR.out _).mono ?_
 rintro e w2 ⟨g,rfl,hM,hg,he2⟩;obtain⟨A,n,c,O,q,d,hb,ha,ho⟩:=hM;have k0:=hb.cell 0;have k1:=hb.cell 1;simp only[Ag,Ae,Af]at k0 k1;have hcv:=Lu (Rd.ext (Ay.rd ha) (Al.drew w2));have HO:=A4 ((Av.ext ho (Al.drew w2)).lower (show w.heap.size≤g+1 by have:=he1.hsize;omega))
 have hend:=(he1.trans he2).to_drew;clear HR hb ha ho he1 he2 hg;go_wp2_with fail
 go_region_with fail
 all_goals
  go_wp2_with fail
  go_ret3
  exact⟨O,q,d,rfl,HO.out,hend⟩
end
