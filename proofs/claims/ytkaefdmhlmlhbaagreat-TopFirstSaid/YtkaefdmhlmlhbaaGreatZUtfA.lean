/-
  Part ZUtfA.
-/
import Derived.Test.YtkaefdmhlmlhbaaGreatZUtfPut
import Derived.Test.YtkaefdmhlmlhbaaGreatZUtfH
import Derived.Laws.RangeAny
import Derived.Deep.RegionHeld3
import Derived.Deep.RegionLaw
import Derived.Laws.BytesString
set_option maxRecDepth 100000
set_option maxHeartbeats 16000000
set_option linter.unusedVariables false
set_option linter.unusedSimpArgs false
namespace Go.Proofs.YtkaefdmhlmlhbaaGreat
open Go.RowKit
open _root_.Go.Proofs.Tryz
open _root_.List renaming getElem?_cons_succ→Ag,getElem?_cons_zero→Af,getElem?_eq_getElem→Bm,getElem?_toArray→Ah,length_map→Cx,take_of_length_le→Bi
open _root_.Nat renaming le_refl→Aj,lt_succ_self→Bt
open Value renaming int→Av,slice→Ak
section
variable {ah:List Nat}{w:World}{A:Option Addr}{s:ByteArray}{l:List Int}{n c k g:Nat}
theorem oT:(prog.info? 21).map (fun i=>(i.zero,i.size,i.bytes))=some (some (.int .i32 0),1,4):=by kernel_rfl
theorem jN {base n c:Nat}(h:Bd w base 21 1 A n c (l.map (Av .i32)))(hs:∀x∈l,Df x):
 (convert 145 9 (.slice A n c)).run prog w=.ok (.string (Em (Hs l))) w:=by
 have hr:=Bd.rd h;have jh:l.length=n:=by have:=hr.len;rw[List.length_map]at this;omega
 by_cases h0:n=0
 ·subst h0
  obtain rfl:l=[]:=List.length_eq_zero_iff.1 jh;cases A with
  |none=>
   rw[run_convert_runes_nil w _ _ 21 0 c underlying145 underlying21 underlying9]
   rfl
  |some a=>
   rw[run_convert_runes w _ _ 21 a 0 c [] (by simp) underlying145 underlying21 underlying9 (by simp)]
   rfl
 ·obtain⟨a,rfl,_⟩:=hr.at_ (k:=0) (by omega)
  have hc:∀j,j<l.length→w.cell? (a.add j)=some (.int .i32 (l.getD j 0)):=by
   intro j hj;obtain⟨a',e1,hc⟩:=hr.at_ (k:=j) (by omega)
   injection e1 with e1;subst e1;refine hc j _ ?_
   rw[List.getElem?_map,Bm hj];simp[List.getD,Bm hj]
  rw[run_convert_runes w _ _ 21 a n c l (by omega) underlying145 underlying21 underlying9 hc,Bi (by omega),Yg hs]
theorem Uk (h:k<l.length):l.take (k+1)=l.take k++[gI l k]:=by
 rw[List.take_succ_eq_append_getElem h];simp[gI,Bm h]
theorem rW (h:k<l.length):gI l k∈l:=by
 exact I159
theorem Z0 (hl:Bj w A n c l)(hn:n≤17592186043904):
 Calls prog 44 #[.slice A n c] w fun e w'=>((∀x∈l,Df x)→e=.returned (.tuple #[.string (Em (Hs l)),(0:Int)]))∧(¬(∀x∈l,Df x)→e=.returned (.tuple #[.string ⟨#[]⟩,(1:Int)]))∧An w w':=by
 obtain⟨i0,hi,bm,bz,az⟩:=info_parts oT;have f6:∀u:World,(Instr.makeSlice 145 (.int .i64 0) (.int .i64 (n:Int))).run prog u=
  .ok (.slice (some ⟨u,0,none⟩) 0 n) (u.alloc (.cells (madeCells #[.int .i32 0] n) 21)):=fun u=>by
  have h:=run_make (P:=prog) u 145 21 i0 (.int .i32 0) underlying145 hi bm .i64 .i64 0 (n:Int) (by omega) (by omega) (by rw[az];omega) (by omega)
  simpa[bz,Value.cells]using h
 have dg:Bd (w.alloc (.cells (madeCells #[.int .i32 0] n) 21)) w.heap.size 21 1 (some ⟨w,0,none⟩) 0 n []:=
  World.ownsRow_made w _ _ (Aj _) (by unfold maxLen;omega) (by simp[size_madeCells])
 have ab:=A6 hl.len;have HI:=A6 hi;clear hi;go_enter func44,ntmps44
 go_wp2_with fail
 go_loopw [4,12] (fun v i wr=>∃(k d:Nat) (B:Option Addr),k≤n∧v=.slice B k d∧i=.int .i64 k∧Bd wr w.heap.size 21 1 B k d ((l.take k).map (Av .i32))∧Hid (∀x∈l.take k,Df x)∧An w wr) (fun _ i _=>n-(intOf i).toNat)
 case atStart=>exact⟨0,n,_,by omega,rfl,rfl,dg,A6 (by simp),An.alloc _ _⟩
 case round=>
  clear dg f6;obtain⟨k,d,B,hk,rfl,rfl,ac,gj,he⟩:=hrel;by_cases ae:k<n
  ·obtain⟨ad,rfl,hc⟩:=hl.at_ ae
   have d1:=he.cell (hc k ae);have pz:k<l.length:=by rw[ab.out];exact ae
   by_cases hs:Df (gI l k)
   ·have HS:=A6 (Xg hs)
    have mg:IntKind.i32.wrap (gI l k)=gI l k:=by rw[IntKind.wrap_i32];have:=hs.1;have:=hs.2.1;omega
    have BY:Hid (∀x∈l.take (k+1),Df x):=A6 (by
     rw[Uk pz];intro x hx;rcases List.mem_append.1 hx with hx|hx
     ·exact gj.out x hx
     ·obtain rfl:=List.mem_singleton.1 hx;exact hs)
    clear hs gj;have hi:=HI.out;go_wp2_with fail
    refine(HS.out _).mono ?_
    rintro e w' ⟨rfl,rfl⟩;clear HS;go_wp2_with (at_builtin;refine C9 rfl (.tmp 19) (.tmp 22) 145 rfl w w.heap.size 21 i0 (.int .i32 0) 1 4 underlying145 hi bm bz az rfl (by decide) B k d _ rfl ac #[.int .i32 (gI l k)] rfl ?_ rfl ?_ ?_ he (Aj _) he.hsize ?_)
    ·rfl
    ·unfold maxLen;omega
    ·omega
    ·intro A2 c2 w2 dh av cf au
     have et:Bd w2 w.heap.size 21 1 A2 (k+1) c2 ((l.take (k+1)).map (Av .i32)):=by rw[Uk pz];simpa using dh
     clear ac dh av cf he d1 hc hi;go_wp2_with fail
     go_roundw
     case rel=>exact⟨k+1,c2,A2,by omega,rfl,by go_num,et,BY,au⟩
     case measure=>simp[intOf];omega
   ·have HS:=A6 (Z7 hs)
    have HN:Hid (¬ ∀x∈l,Df x):=A6 fun h=>hs (h _ (rW pz))
    clear hs gj;go_wp2_with fail
    refine(HS.out _).mono ?_
    rintro e w' ⟨rfl,rfl⟩;go_wp2_with fail
    go_ret2
    exact⟨fun h=>absurd h HN.out,fun _=>rfl,he⟩
  ·obtain rfl:k=n:=by omega
   have BY:Hid (∀x∈l,Df x):=A6 (by have:=gj.out;rwa[Bi (by rw[ab.out];exact Aj _)]at this)
   rw[Bi (by rw[ab.out];exact Aj _)]at ac
   have zp:=jN ac BY.out;clear gj ac;go_wp2_with fail
   go_ret2
   exact⟨fun _=>rfl,fun h=>absurd BY.out h,he⟩
theorem Z1 (l:List Nat):(Em l).size=l.length:=by
 show(Em l).data.size=_
 unfold Em;simp
def bv (b:Nat):Value:=.int .u8 b
theorem J0c:(prog.info? 5).map (fun i=>(i.zero,i.size,i.bytes))=some (some (.int .u8 0),1,1):=by kernel_rfl
theorem nE (b:Nat)(w:World):Calls prog 155 #[.int .u8 b] w fun e w'=>e=.returned (.tuple #[.int .u8 (Ux b),.int .u8 (Uy b)])∧w=w':=by
 by_cases c1:b=224
 ·subst c1
  exact I15
 by_cases c2:b=237
 ·subst c2
  exact I15
 by_cases c3:b=240
 ·subst c3
  exact I15
 by_cases c4:b=244
 ·subst c4
  exact I15
 have e1:Ux b=128:=by unfold Ux;rw[if_neg c1,if_neg c3]
 have e2:Uy b=191:=by unfold Uy;rw[if_neg c2,if_neg c4]
 rw[e1,e2];have k1:((b:Int)==224)=false:=by simp;omega
 have k2:((b:Int)==237)=false:=by simp;omega
 have k3:((b:Int)==240)=false:=by simp;omega
 have k4:((b:Int)==244)=false:=by simp;omega
 clear c1 c2 c3 c4 e1 e2;exact I15
theorem Px (b:Nat)(w:World):Calls prog 123 #[.int .u8 b] w fun e w'=>e=.returned (.int .i64 (Hk b))∧w=w':=by
 have key:∀z:Nat,Hk b=z→Hk b=z:=fun _ h=>h
 by_cases c1:b<128
 ·rw[wh1.2 c1]
  exact I14
 by_cases c2:b<194
 ·rw[show Hk b=0 by unfold Hk;rw[if_neg c1,if_neg (by omega),if_neg (by omega),if_neg (by omega)]]
  have k1:¬(194:Int)≤b:=by omega
  have k2:¬(224:Int)≤b:=by omega
  have k3:¬(240:Int)≤b:=by omega
  exact I14
 by_cases c3:b<224
 ·rw[wh2.2 ⟨by omega,by omega⟩]
  have k1:(194:Int)≤b:=by omega
  have k2:(b:Int)≤223:=by omega
  exact I14
 by_cases c4:b<240
 ·rw[wh3.2 ⟨by omega,by omega⟩]
  have k1:(194:Int)≤b:=by omega
  have k2:¬(b:Int)≤223:=by omega
  have k3:(224:Int)≤b:=by omega
  have k4:(b:Int)≤239:=by omega
  exact I14
 by_cases c5:b<245
 ·rw[wh4.2 ⟨by omega,by omega⟩]
  have k1:(194:Int)≤b:=by omega
  have k2:¬(b:Int)≤223:=by omega
  have k3:(224:Int)≤b:=by omega
  have k4:¬(b:Int)≤239:=by omega
  have k5:(240:Int)≤b:=by omega
  have k6:(b:Int)≤244:=by omega
  exact I14
 ·rw[show Hk b=0 by unfold Hk;rw[if_neg c1,if_neg (by omega),if_neg (by omega),if_neg (by omega)]]
  have k1:(194:Int)≤b:=by omega
  have k2:¬(b:Int)≤223:=by omega
  have k3:(224:Int)≤b:=by omega
  have k4:¬(b:Int)≤239:=by omega
  have k5:(240:Int)≤b:=by omega
  have k6:¬(b:Int)≤244:=by omega
  exact I14
theorem cB (h:Rd w 1 A n c (ah.map bv))(hk:k<n):∃ad,A=some ad∧w.cell? (ad.add k)=some (.int .u8 (gN ah k)):=by
 obtain⟨ad,e,hc⟩:=h.at_ hk;have hl:ah.length=n:=by have:=h.len;rw[Cx]at this;omega
 refine⟨ad,e,hc k _ ?_⟩
 rw[List.getElem?_map,Bm (by omega)]
 simp[bv,gN,Bm (show k<ah.length by omega)]
theorem bM {b:Nat}(h:Rd w 1 A n c (ah.map bv)):
 Calls prog 121 #[.slice A n c,.int .u8 b] w fun e w'=>e=.returned (.bool (decide (Eo ah b)))∧w=w':=by
 have hl:ah.length=n:=by have:=h.len;rw[Cx]at this;omega
 have aw:=h.ncap;have aq:=h.nmax;unfold maxLen at aq;by_cases h1:n=1
 ·subst h1
  obtain⟨ad,rfl,hc⟩:=cB h (k:=0) (by omega)
  rw[Ei]at hc;have HS:=A6 (nE (gN ah 0));have HE:Hid (Eo ah b↔Ux (gN ah 0)≤b∧b≤Uy (gN ah 0)):=A6 (by unfold Eo;rw[if_pos hl])
  clear h hl;generalize gN ah 0=a at*;generalize Ux a=x at*;generalize Uy a=y at*;go_enter func121,ntmps121
  go_wp2_with fail
  refine(HS.out _).mono ?_
  rintro e w' ⟨rfl,rfl⟩;by_cases k1:x≤b
  ·have k1i:(x:Int)≤(b:Int):=by omega
   by_cases k2:b≤y
   ·have k2i:(b:Int)≤(y:Int):=by omega
    have hE:=A6 (decide_eq_true (HE.out.2 ⟨k1,k2⟩));clear HS HE;exact I32
   ·have k2i:¬(b:Int)≤(y:Int):=by omega
    have hE:=A6 (decide_eq_false (fun hh=>k2 (HE.out.1 hh).2))
    clear HS HE;exact I32
  ·have k1i:¬(x:Int)≤(b:Int):=by omega
   have hE:=A6 (decide_eq_false (fun hh=>k1 (HE.out.1 hh).1))
   clear HS HE;exact I32
 ·have HE:Hid (Eo ah b↔128≤b∧b≤191):=A6 (by unfold Eo;rw[if_neg (by omega)])
  have ep:((n:Int)==1)=false:=by simp;omega
  clear h;by_cases k1:128≤b
  ·have k1i:(128:Int)≤(b:Int):=by omega
   by_cases k2:b≤191
   ·have k2i:(b:Int)≤191:=by omega
    have hE:=A6 (decide_eq_true (HE.out.2 ⟨k1,k2⟩));exact I31
   ·have k2i:¬(b:Int)≤191:=by omega
    have hE:=A6 (decide_eq_false (fun hh=>k2 (HE.out.1 hh).2))
    exact I31
  ·have k1i:¬(128:Int)≤(b:Int):=by omega
   have hE:=A6 (decide_eq_false (fun hh=>k1 (HE.out.1 hh).1))
   exact I31
theorem Bd.apart {base iq e e' z z' n n' c c':Nat}{A A':Option Addr}{xs ys:List Value}(h:Bd w base e z A n c xs)(h':Bd w iq e' z' A' n' c' ys)(ai:e≠e'):
 (Ak A n c).ownBlock=none∨(Ak A n c).ownBlock≠(Ak A' n' c').ownBlock:=by
 rcases h.2 with⟨hv,_⟩|⟨g,cap,cur,hv,_,hg,_⟩
 ·left;rw[hv];rfl
 ·right
  rcases h'.2 with⟨nt,_⟩|⟨g',ib,UO,nt,_,cr,_⟩
  ·rw[hv,nt];simp[Value.ownBlock]
  ·rw[hv,nt]
   intro e;simp[Value.ownBlock]at e;subst e;rw[hg]at cr;injection cr with cr;injection cr with _ h2;exact ai h2
def Fx (w:World)(g:Nat)(m:aJ):Prop:=
 ∃A n c O q d,Aq w g 134 #[.slice A n c,.slice O q d]∧Bd w (g+1) 5 1 A n c (m.ah.map bv)∧Ba w (g+1) O q d m.out
theorem Fx.ext {w w':World}{m:aJ}(h:Fx w g m)(he:An w w'):Fx w' g m:=by
 obtain⟨A,n,c,O,q,d,h1,h2,h3⟩:=h;exact⟨A,n,c,O,q,d,h1.ext he,Bd.ext h2 he,Ba.ext h3 he⟩
theorem Ny (hr:Rd w 1 A n c (ah.map bv)):
 (convert 121 9 (.slice A n c)).run prog w=.ok (.string (Em ah)) w:=by
 have hl:ah.length=n:=by have:=hr.len;rw[Cx]at this;omega
 have NA:∀(l:List Nat) (s:ByteArray),(l.map (fun b:Nat=>(b:Int))).foldl (fun r n=>r.push (UInt8.ofNat n.toNat)) s=s++Em l:=by
  intro l
  induction l with
  |nil=>intro s;have:Em []=ByteArray.empty:=rfl;rw[this];simp
  |cons b l ih=>
   intro s;rw[List.map_cons,List.foldl_cons,ih];apply ByteArray.ext
   simp[Em,ByteArray.data_append]
 rw[run_convert_bytes_string w _ _ 5 _ _ _ underlying121 underlying5 underlying9];cases A with
 |none=>
  have h0:n=0:=by
   rcases Nat.eq_zero_or_pos n with h|h
   ·exact h
   ·obtain⟨ad,e,_⟩:=hr.at_ (k:=0) h;cases e
  subst h0;obtain rfl:ah=[]:=List.length_eq_zero_iff.1 hl
  rfl
 |some a=>
  have hc:∀j,j<n→w.cell? (a.add j)=some (.int .u8 ((ah.map (fun b:Nat=>(b:Int))).getD j 0)):=by
   intro j hj;obtain⟨a',e,hc⟩:=cB hr hj;injection e with e;subst e;rw[hc];simp[gN,List.getD,List.getElem?_eq_getElem (show j<ah.length by omega)]
  have NB:=run_loadCells (P:=prog) w a n (fun j=>.int .u8 ((ah.map (fun b:Nat=>(b:Int))).getD j 0)) hc
  have xp:=range_map_take (Value.int .u8) (ah.map (fun b:Nat=>(b:Int))) n (by rw[Cx];omega)
  rw[List.take_of_length_le (by rw[Cx];omega)]at xp
  rw[run_bytesToString w a n c (ah.map (fun b:Nat=>(b:Int))) (by rw[NB,xp]),NA]
  simp
theorem qB {w0 w:World}{m:aJ}(h:Fx w g m)(he:An w0 w)(hg:w0.heap.size≤g)(hq:m.out.length≤1000000):
 Calls prog 122 #[.pointer (some ⟨g,0,none⟩)] w fun e w'=>e=.returned (.tuple #[])∧Fx w' g (Yb m)∧An w0 w':=by
 obtain⟨i0,hi,bm,bz,az⟩:=info_parts Cd;have HM:=A6 h;obtain⟨A,n,c,O,q,d,hb,ha,ho⟩:=h;have hl:m.ah.length=n:=by have:=(Bd.rd ha).len;rw[Cx]at this;omega
 have dr:m.out.length=q:=ho.ints.len;have k0:=hb.cell 0;have k1:=hb.cell 1;have f0:=hb.frozen 0;have f1:=hb.frozen 1;simp only[Ah,Af,Ag]at k0 k1;have ae:=hb.lt;by_cases h0:n=0
 ·have HE:Hid (Yb m=m):=A6 (by unfold Yb;rw[if_pos (by omega)])
  subst h0;clear hb ha ho hl dr f0 f1;go_enter func122,ntmps122
  go_wp2_with fail
  go_end0
  exact⟨rfl,by rw[HE.out];exact HM.out,he⟩
 ·have HE:Hid (Yb m=⟨[],m.out++[65533]⟩):=A6 (by unfold Yb;rw[if_neg (by omega)])
  have jx:0<n:=by omega
  have bf:q≤1000000:=by omega
  have a1:=An.cell (An.alloc w (.cells #[(65533:Int)] 3)) k1;have HB:=A6 hb;have HO:=A6 ho;clear hb ha ho hl dr hq h0 HM;go_enter func122,ntmps122
  have ac:=HO.out;go_wp2_with (at_builtin;refine C9 rfl (.tmp 12) (.tmp 13) 25 rfl w0 (g+1) 3 i0 (.int .i64 0) 1 8 underlying25 hi bm bz az rfl (by decide) O q d _ rfl ac #[(65533:Int)] rfl ?_ rfl ?_ ?_ he (by omega) (by omega) ?_)
  ·rfl
  ·unfold maxLen;omega
  ·omega
  ·intro O2 d2 w3 db av cf bg
   have ai:(Ak O q d).ownBlock≠some g:=fun e=>by have:=(Bd.blk HO.out g e).1;omega
   have ap:=HB.out.grown av (fun e=>ai e.symm)
   have c0:=ap.cell 0;have c1:=ap.cell 1;have f0:=ap.frozen 0;have f1:=ap.frozen 1;simp only[Ah,Af,Ag]at c0 c1;have bn:Aq (w3.setCell ⟨g,1,none⟩ (.slice O2 (q+1) d2)) g 134 #[.slice A n c,.slice O2 (q+1) d2]:=by simpa using ap.set_ 1 (.slice O2 (q+1) d2)
   have f4:=bn.frozen 0;have c4:=bn.cell 0;simp only[Ah,Af,Ag]at c4;have cg:Aq ((w3.setCell ⟨g,1,none⟩ (.slice O2 (q+1) d2)).setCell ⟨g,0,none⟩ (.slice none 0 0)) g 134 #[.slice none 0 0,.slice O2 (q+1) d2]:=by simpa using bn.set_ 0 (.slice none 0 0)
   have vl:Ba ((w3.setCell ⟨g,1,none⟩ (.slice O2 (q+1) d2)).setCell ⟨g,0,none⟩ (.slice none 0 0)) (g+1) O2 (q+1) d2 (m.out++[65533]):=by
    exact I149
   have nv:=(bg.setCell (p:=⟨g,1,none⟩) hg (.slice O2 (q+1) d2)).setCell (p:=⟨g,0,none⟩) hg (.slice none 0 0);have HF:Hid (Fx ((w3.setCell ⟨g,1,none⟩ (.slice O2 (q+1) d2)).setCell ⟨g,0,none⟩ (.slice none 0 0)) g ⟨[],m.out++[65533]⟩):=A6 ⟨none,0,0,O2,q+1,d2,cg,Bd.nil _ _ _ _,vl⟩;have HX:=A6 nv;clear db av cf bg ap bn cg vl nv ac;go_wp2_with fail
   go_end0
   exact⟨rfl,by rw[HE.out];exact HF.out,HX.out⟩
theorem aV (h:aI ah):ah.length≤3:=by
 match ah,h with
 |[],_=>simp
 |[a],_=>simp
 |[a,b],_=>simp
 |[a,b,c],_=>simp
theorem bE {w0 w:World}{out:List Int}{b:Nat}(h:Fx w g ⟨ah,out⟩)(hp:aI ah)(AY:Hid (∀x∈ah,x<256))(DG:b<256)(he:An w0 w)(hg:w0.heap.size≤g)(hq:out.length≤1000000):
 Calls prog 78 #[.pointer (some ⟨g,0,none⟩),.int .u8 b] w fun e w'=>e=.returned (.tuple #[])∧Fx w' g (Kw ⟨ah,out⟩ b)∧An w0 w':=by
 obtain⟨i0,hi,bm,bz,az⟩:=info_parts Cd;obtain⟨i8,hi8,hy0,hy1,hy2⟩:=info_parts J0c;have WA:=aV hp;have HM:=A6 h;obtain⟨A,n,c,O,q,d,hb,ha,ho⟩:=h;have hl:ah.length=n:=by have:=(Bd.rd ha).len;rw[Cx]at this;simp at this;omega
 have dr:out.length=q:=ho.ints.len;have vu:q≤1000000:=by omega
 have aw:=(Bd.rd ha).ncap;have aq:=(Bd.rd ha).nmax;unfold maxLen at aq;have HQ:Hid (out.length≤1000000):=A6 (by omega)
 clear hp dr hq;by_cases h0:n=0
 ·subst h0
  obtain rfl:ah=[]:=List.length_eq_zero_iff.1 hl;have HP:Hid (Kw ⟨[],out⟩ b=Ll ⟨[],out⟩ b):=A6 (Kn out b);have vr:=he;have MY:=A6 ha;have HAZ:Hid (∀(w3:World) (row:Option Nat),w.grownBy w3 row→((Ak A 0 c).ownBlock=none∨(Ak A 0 c).ownBlock≠row)→Bd w3 (g+1) 5 1 A 0 c []):=A6 fun w3 row h1 h2=>Bd.kept ha h1 h2
  clear hl HM he;have k0:=hb.cell 0;have k1:=hb.cell 1;have f0:=hb.frozen 0;have f1:=hb.frozen 1;simp only[Ah,Af,Ag]at k0 k1;go_enter func78,ntmps78
  have HW:=A6 (Px b);by_cases me:Hk b=0
  ·rw[me]at HW
   have HR:Hid (Kw ⟨[],out⟩ b=⟨[],out++[65533]⟩):=A6 (by rw[HP.out];unfold Ll;exact if_pos ⟨rfl,me⟩)
   have dk:=hb.lt;have vo:=A6 hb;have vq:=A6 ho;clear me HP hb ha;go_wp2_with fail
   refine(HW.out _).mono ?_
   rintro e w' ⟨rfl,rfl⟩;go_wp2_with (at_builtin;refine C9 rfl (.tmp 39) (.tmp 40) 25 rfl w0 (g+1) 3 i0 (.int .i64 0) 1 8 underlying25 hi bm bz az rfl (by decide) O q d _ rfl ho #[(65533:Int)] rfl ?_ rfl ?_ ?_ vr (by omega) dk ?_)
   ·rfl
   ·unfold maxLen;omega
   ·omega
   ·have N0:=trivial;exact K43
  ·have N0:=trivial;exact K8

 ·have ep:0<n:=by omega
  have ai:ah≠[]:=fun e=>by rw[e]at hl;simp at hl;omega
  have FT:=A6 (fun wq fw=>bM (b:=b) (w:=wq) (Rd.ext (Bd.rd ha) (w':=wq) fw))
  by_cases hf:Eo ah b
  ·have HP:Hid (Kw ⟨ah,out⟩ b=Ll ⟨ah,out⟩ b):=A6 (by unfold Kw;rw[if_neg (fun hh=>hh.2 hf)])
   have GM:=A6 (FT.out w (An.refl w));rw[decide_eq_true hf]at GM;have kl:¬(ah.length=0∧Hk b=0):=fun h=>by omega
   have vr:=he;clear hf FT HM he ai h0;have k0:=hb.cell 0;have k1:=hb.cell 1;have f0:=hb.frozen 0;have f1:=hb.frozen 1;simp only[Ah,Af,Ag]at k0 k1;go_enter func78,ntmps78
   go_wp2_with fail
   refine GM.out.mono ?_
   rintro e w' ⟨rfl,rfl⟩;have GN:n≤3:=by omega
   clear GM hl;have jr:Hid ((ah++[b]).length=Hk (gN (ah++[b]) 0)→Kw ⟨ah,out⟩ b=⟨[],out++[(J9 (ah++[b]):Int)]⟩):=A6 fun h=>by
    exact I101
   have js:Hid (¬(ah++[b]).length=Hk (gN (ah++[b]) 0)→Kw ⟨ah,out⟩ b=⟨ah++[b],out⟩):=A6 fun h=>by
    rw[HP.out];unfold Ll;rw[if_neg kl];exact if_neg h
   have LM:Hid (∀x∈ah++[b],x<256):=A6 (by
    intro x hx;rcases List.mem_append.1 hx with hx|hx
    ·exact AY.out x hx
    ·obtain rfl:=List.mem_singleton.1 hx;exact DG)
   have xi:=Bd.apart ho ha (by decide)
   have MB:(Ak A n c).ownBlock≠some g:=fun e=>by have:=(Bd.blk ha g e).1;omega
   have dk:=hb.lt;have vo:=A6 hb;have vq:=A6 ho;have GC:=A6 xi;have GD:=A6 MB;clear xi MB hb ho HP kl;go_wp2_with (at_builtin;refine C9 rfl (.tmp 48) (.tmp 50) 121 rfl w0 (g+1) 5 i8 (.int .u8 0) 1 1 underlying121 hi8 hy0 hy1 hy2 rfl (by decide) A n c _ rfl ha #[.int .u8 b] rfl ?_ rfl ?_ ?_ vr (by omega) dk ?_)
   ·rfl
   ·unfold maxLen;omega
   ·omega
   ·intro A2 c4 w3 pq av cf bg
    have ap:=vo.out.grown av (fun e=>GD.out e.symm)
    have c0:=ap.cell 0;have f0:=ap.frozen 0;simp only[Ah,Af,Ag]at c0;have cv:=Bd.kept vq.out av GC.out;have bn:Aq (w3.setCell ⟨g,0,none⟩ (.slice A2 (n+1) c4)) g 134 #[.slice A2 (n+1) c4,.slice O q d]:=by simpa using ap.set_ 0 (.slice A2 (n+1) c4)
    have fm:Bd (w3.setCell ⟨g,0,none⟩ (.slice A2 (n+1) c4)) (g+1) 5 1 A2 (n+1) c4 ((ah++[b]).map bv):=by
     have:=Bd.setCell pq (p:=⟨g,0,none⟩) (Bt g) (.slice A2 (n+1) c4)
     simpa[bv]using this
    have si:Ba (w3.setCell ⟨g,0,none⟩ (.slice A2 (n+1) c4)) (g+1) O q d out:=Bd.setCell cv (p:=⟨g,0,none⟩) (Bt g) (.slice A2 (n+1) c4);have nf:=bg.setCell (p:=⟨g,0,none⟩) hg (.slice A2 (n+1) c4);have KV:=ap.lt;clear pq av cf bg ap cv vo vq GC GD ha vr k0 k1 f1;go_wp2_with fail
    clear c0 f0
    revert bn fm si nf
    generalize w3.setCell ⟨g,0,none⟩ (.slice A2 (n+1) c4)=w4;intro bn fm si nf;obtain⟨bs,fy⟩:∃bs,ah++[b]=bs:=⟨_,rfl⟩;rw[fy]at fm jr js LM;clear fy;have eb:bs.length=(n+1):=by have:=(Bd.rd fm).len;rw[Cx]at this;omega
    obtain⟨ad,MC,sk⟩:=cB (Bd.rd fm) (k:=0) (by omega)
    rw[Ei]at sk;subst MC;have k0:=bn.cell 0;have k1:=bn.cell 1;have f0:=bn.frozen 0;have f1:=bn.frozen 1;simp only[Ah,Af,Ag]at k0 k1;have MD:=A6 (Px (gN bs 0));have zp:=Ny (Rd.ext (Bd.rd fm) (An.drew w4));have HG:Hid (∀wq,Calls prog 38 #[.string (Em bs)] wq fun e w'=>e=.returned (.tuple #[.int .i64 (J9 bs),.int .i64 (Lc bs),.int .i64 (J8 bs)])∧wq=w'):=A6 fun wq=>by
     exact I92
    have qc:=A6 bn;have ME:=A6 fm;have ow:=A6 si;have rb:=A6 nf;have RT:=(Bd.rd fm).ncap;have AZ:=(Bd.rd fm).nmax;unfold maxLen at AZ;have jj:=bn.lt;have ox:=A6 eb;clear bn fm si nf eb;generalize zq:Hk (gN bs 0)=wz at*;generalize gN bs 0=a0 at*;have Hwz:=A6 zq;clear zq;go_region_held3 (fun w'=>w'.cell? ⟨g,0,none⟩=some (.slice (some ad) (n+1) c4)∧w'.cell? ad=some (.int .u8 a0)) (first|assumption|exact⟨k0,sk⟩)
     ((go_at_call 123;refine(MD.out _).mono ?_;rintro e w' ⟨rfl,rfl⟩))
    by_cases dd:(n+1)=wz
    ·have ny:(((n:Int)+1)==(wz:Int))=true:=by simp;omega
     have HR:=A6 (jr.out (by rw[ox.out];exact dd))
     generalize J9 bs=gc at*;generalize Lc bs=gw at*;generalize J8 bs=ge at*;clear dd;go_wp2_with fail
     refine(HG.out _).mono ?_
     rintro e w' ⟨rfl,rfl⟩;have ac:=Ba.ext ow.out (An.drew w4);have nv:=rb.out.to_drew;have sm:g+1≤w4.drew.heap.size:=jj;clear zp sk;go_wp2_with (at_builtin;refine C9 rfl (.tmp 81) (.tmp 83) 25 rfl w0 (g+1) 3 i0 (.int .i64 0) 1 8 underlying25 hi bm bz az rfl (by decide) O q d _ rfl ac #[gc] rfl ?_ rfl ?_ ?_ nv (by omega) sm ?_)
     ·rfl
     ·unfold maxLen;omega
     ·omega
     ·intro O2 d2 w5 db av cf bg
      have ai:(Ak O q d).ownBlock≠some g:=fun e=>by have:=(Bd.blk ow.out g e).1;omega
      have cg:=(qc.out.drewN 1).grown av (fun e=>ai e.symm)
      have c0:=cg.cell 0;have c1:=cg.cell 1;have f0:=cg.frozen 0;have f1:=cg.frozen 1;simp only[Ah,Af,Ag]at c0 c1;have eo:Aq (w5.setCell ⟨g,1,none⟩ (.slice O2 (q+1) d2)) g 134 #[.slice (some ad) (n+1) c4,.slice O2 (q+1) d2]:=by simpa using cg.set_ 1 (.slice O2 (q+1) d2)
      exact I6
    ·have ny:(((n:Int)+1)==(wz:Int))=false:=by simp;omega
     have HR:=A6 (js.out (by rw[ox.out];exact dd))
     have HF:Hid (Fx w4.drew g ⟨bs,out⟩):=A6 ⟨some ad,(n+1),c4,O,q,d,qc.out.drewN 1,Bd.ext ME.out (An.drew w4),Ba.ext ow.out (An.drew w4)⟩;clear dd zp sk;go_wp2_with fail
     go_end0
     exact⟨rfl,by rw[HR.out];exact HF.out,rb.out.to_drew⟩
  ·have HB:=A6 (qB HM.out he hg HQ.out)
   have HE:Hid (Yb ⟨ah,out⟩=⟨[],out++[65533]⟩):=A6 (by unfold Yb;exact if_neg (by show ¬ah.length=0;omega))
   rw[HE.out]at HB;have HP:Hid (Kw ⟨ah,out⟩ b=Ll ⟨[],out++[65533]⟩ b):=A6 (Py out ai hf);have GM:=A6 (FT.out w (An.refl w));rw[decide_eq_false hf]at GM;clear hf FT HM he ai h0 HE;have k0:=hb.cell 0;have k1:=hb.cell 1;have f0:=hb.frozen 0;have f1:=hb.frozen 1;simp only[Ah,Af,Ag]at k0 k1;clear hb ha ho hl f0 f1;go_enter func78,ntmps78
   go_wp2_with fail
   refine GM.out.mono ?_
   rintro e w' ⟨rfl,rfl⟩;clear GM;go_wp2_with fail
   refine HB.out.mono ?_
   rintro e w1 ⟨rfl,hM1,vr⟩;clear HB k0 k1 aw aq AY;have AY:Hid (∀x∈([]:List Nat),x<256):=A6 (by simp)
   obtain⟨A,n',c,O,q',d,hb,ha,ho⟩:=hM1;obtain rfl:n'=0:=by have:=(Bd.rd ha).len;simp at this;omega
   have hqb2:q'≤1000001:=by have h1:=ho.ints.len;simp at h1;have h2:=HQ.out;omega
   have aw:=(Bd.rd ha).ncap;have aq:=(Bd.rd ha).nmax;unfold maxLen at aq;have MY:=A6 ha;have HAZ:Hid (∀(w3:World) (row:Option Nat),w1.grownBy w3 row→((Ak A 0 c).ownBlock=none∨(Ak A 0 c).ownBlock≠row)→Bd w3 (g+1) 5 1 A 0 c []):=A6 fun w3 row h1 h2=>Bd.kept ha h1 h2
   have k0:=hb.cell 0;have k1:=hb.cell 1;have f0:=hb.frozen 0;have f1:=hb.frozen 1;simp only[Ah,Af,Ag]at k0 k1;have HW:=A6 (Px b);by_cases me:Hk b=0
   ·rw[me]at HW
    have HR:Hid (Kw ⟨ah,out⟩ b=⟨[],(out++[65533])++[65533]⟩):=A6 (by rw[HP.out];unfold Ll;exact if_pos ⟨rfl,me⟩)
    have dk:=hb.lt;have vo:=A6 hb;have vq:=A6 ho;clear me HP hb ha;go_wp2_with fail
    refine(HW.out _).mono ?_
    rintro e w' ⟨rfl,rfl⟩;go_wp2_with (at_builtin;refine C9 rfl (.tmp 39) (.tmp 40) 25 rfl w0 (g+1) 3 i0 (.int .i64 0) 1 8 underlying25 hi bm bz az rfl (by decide) O q' d _ rfl ho #[(65533:Int)] rfl ?_ rfl ?_ ?_ vr (by omega) dk ?_)
    ·rfl
    ·unfold maxLen;omega
    ·omega
    ·have N1:=trivial;exact K43
   ·have N1:=trivial;exact K8
def bS (l:List Nat):aJ:=Ke l ⟨[],[]⟩
theorem zN (l:List Nat):aI (bS l).ah:=(V9 l [] trivial).1
theorem zO (l:List Nat):(bS l).out.length≤l.length:=by have:=(V9 l [] trivial).2.2;unfold bS;simp at this;omega
theorem J4f {l:List Nat}(h:∀x∈l,x<256):∀x∈(bS l).ah,x<256:=by
 obtain⟨p,hp⟩:=cP l [];intro x hx;refine h x ?_
 have:x∈[]++l:=by rw[hp];exact List.mem_append_right _ hx
 simpa using this
theorem uP (l:List Nat)(b:Nat):bS (l++[b])=Kw ⟨(bS l).ah,(bS l).out⟩ b:=nH l b _
theorem mQ {l:List Nat}(h:k<l.length):l.take (k+1)=l.take k++[gN l k]:=by
 rw[List.take_succ_eq_append_getElem h];simp[gN,List.getElem?_eq_getElem h]
theorem Uo (hs:s.size≤8200):
 Calls prog 57 #[.string s] w fun e w'=>∃g,e=.returned (.pointer (some ⟨g,0,none⟩))∧Fx w' g (bS (Ap s))∧w.heap.size≤g∧An w w':=by
 have HN:=A6 (F5 s);have HLt:=A6 (Vb s);have zh:Hid (Fx (w.alloc (.cells #[(),()] 134)) w.heap.size (bS [])):=
  A6 ⟨none,0,0,none,0,0,Aq.new _ _ _,Bd.nil _ _ _ _,Ba.nil _ _⟩
 go_enter func57,ntmps57
 go_wp2_with fail
 go_loopw [9] (fun iv wr=>∃k:Nat,k≤s.size∧iv=.int .i64 k∧Hid (Fx wr w.heap.size (bS ((Ap s).take k)))∧An w wr) (fun iv _=>s.size-(intOf iv).toNat)
 case atStart=>exact⟨0,by omega,rfl,zh,An.alloc _ _⟩
 case round=>
  clear zh;obtain⟨k,hk,rfl,hM,he⟩:=hrel;by_cases ae:k<s.size
  ·have zw:=Vc s k ae
   have HT:=A6 (bE (w0:=w) (b:=gN (Ap s) k) (ah:=(bS ((Ap s).take k)).ah) (out:=(bS ((Ap s).take k)).out) hM.out (zN _) (A6 (J4f (fun x hx=>HLt.out x (List.mem_of_mem_take hx)))) (kE HLt.out k) he (Aj _) (by have h1:=zO ((Ap s).take k);rw[List.length_take]at h1;omega))
   rw[←uP,←mQ (by rw[HN.out];exact ae)]at HT
   clear hM;go_wp2_with fail
   refine HT.out.mono ?_
   rintro e w2 ⟨rfl,UI,au⟩;have eu:=A6 UI;clear HT UI he;go_wp2_with fail
   go_roundw
   case rel=>exact⟨k+1,by omega,by go_num,eu,au⟩
   case measure=>simp[intOf];omega
  ·obtain rfl:k=s.size:=by omega
   have eu:Hid (Fx wr w.heap.size (bS (Ap s))):=A6 (by have:=hM.out;rwa[List.take_of_length_le (by rw[HN.out];exact Aj _)]at this)
   clear hM;go_wp2_with fail
   go_ret
   exact⟨_,rfl,eu.out,Aj _,he⟩
theorem Yj (hs:s.size≤8200):
 Calls prog 56 #[.string s] w fun e w'=>e=.returned (.int .i64 (if(bS (Ap s)).out.length=0 then 0 else 4))∧An w w':=by
 have HR:=A6 (Uo (w:=w) hs);generalize bS (Ap s)=m at*;obtain⟨z,hz⟩:∃z:Int,(if m.out.length=0 then 0 else 4)=z:=⟨_,rfl⟩;rw[hz];have HZ:=A6 hz;clear hz;go_enter func56,ntmps56
 go_wp2_with fail
 refine HR.out.mono ?_
 rintro e w1 ⟨g,rfl,hM,hg,he⟩;obtain⟨A,n,c,O,q,d,hb,ha,ho⟩:=hM;have k1:=hb.cell 1;simp only[Ah,Af,Ag]at k1;have dr:Hid (m.out.length=q):=A6 ho.ints.len;clear HR hb ha ho;by_cases h0:q=0
 ·subst h0
  go_wp2_with fail
  go_ret
  exact⟨Ju (by rw[←HZ.out,if_pos dr.out]),he⟩
 ·have hq:0<q:=by omega
  go_wp2_with fail
  go_ret
  exact⟨Ju (by rw[←HZ.out,if_neg (by rw[dr.out];exact h0)]),he⟩
theorem Zz (hp:aI ah)(ae:∀x∈ah,x<256):
 Calls prog 56 #[.string (Em ah)] w fun e w'=>e=.returned (.int .i64 0)∧An w w':=by
 have h:=Yj (s:=Em ah) (w:=w) (by rw[Z1];have:=aV hp;omega)
 rw[Jg ae]at h;unfold bS at h;rw[kT hp]at h;exact h
def Dh (ah:List Nat)(l:List Nat):aJ:=Ke l ⟨ah,[]⟩
theorem zP (hp:aI ah)(l:List Nat):bS (ah++l)=Dh ah l:=by unfold bS Dh;rw[Sr,kT hp]
theorem vZ (hp:aI ah)(ae:∀x∈ah,x<256)(hs:4096<s.size):
 Calls prog 39 #[.string (Em ah),.string s] w fun e w'=>e=.returned (.tuple #[.string ⟨#[]⟩,(),(2:Int)])∧An w w':=by
 have HC:=A6 (Zz (w:=w) hp ae);clear hp ae;generalize Em ah=p at*;go_enter func39,ntmps39
 go_wp2_with fail
 refine HC.out.mono ?_
 rintro e w1 ⟨rfl,he⟩;go_wp2_with fail
 go_ret3
 exact⟨rfl,he⟩
theorem vY (hp:aI ah)(ae:∀x∈ah,x<256)(hs:s.size≤4096):
 Calls prog 39 #[.string (Em ah),.string s] w fun e w'=>∃O q d,e=.returned (.tuple #[.string (Em (Dh ah (Ap s)).ah),.slice O q d,(0:Int)])∧Ba w' w.heap.size O q d (Dh ah (Ap s)).out∧An w w':=by
 have HC:=A6 (Zz (w:=w) hp ae);have hz:=Z1 ah;have h3:=aV hp;have HR:Hid (∀wq,Calls prog 57 #[.string (Em ah++s)] wq fun e w'=>∃g,e=.returned (.pointer (some ⟨g,0,none⟩))∧Fx w' g (Dh ah (Ap s))∧wq.heap.size≤g∧An wq w'):=A6 fun wq=>by
  have h:=Uo (s:=Em ah++s) (w:=wq) (by rw[ByteArray.size_append,hz];omega)
  rwa[Wr,Jg ae,zP hp]at h
 clear hp ae;generalize Dh ah (Ap s)=m at*;generalize Em ah=p at*;generalize ah.length=z at*;go_enter func39,ntmps39
 go_wp2_with fail
 refine HC.out.mono ?_
 rintro e w1 ⟨rfl,aj⟩;clear HC;go_wp2_with fail
 refine(HR.out _).mono ?_
 rintro e w2 ⟨g,rfl,hM,hg,au⟩;obtain⟨A,n,c,O,q,d,hb,ha,ho⟩:=hM;have k0:=hb.cell 0;have k1:=hb.cell 1;simp only[Ah,Af,Ag]at k0 k1;have zp:=Ny (Rd.ext (Bd.rd ha) (An.drew w2));have HO:=A6 ((Ba.ext ho (An.drew w2)).lower (show w.heap.size≤g+1 by have:=aj.hsize;omega))
 have dq:=(aj.trans au).to_drew;clear HR hb ha ho aj au hg;go_wp2_with fail
 go_region_with fail
 all_goals
  go_wp2_with fail
  go_ret3
  exact⟨O,q,d,rfl,HO.out,dq⟩
end
