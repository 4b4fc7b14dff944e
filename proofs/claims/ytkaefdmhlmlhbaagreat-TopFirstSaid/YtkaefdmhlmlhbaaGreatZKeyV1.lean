/-
  Part ZKeyV1.
-/
import Derived.Test.YtkaefdmhlmlhbaaGreatZKeyU
set_option maxRecDepth 100000
set_option maxHeartbeats 16000000
set_option linter.unusedVariables false
set_option linter.unusedSimpArgs false
namespace Go.Proofs.YtkaefdmhlmlhbaaGreat
open Go.RowKit
open _root_.Go.Proofs.Tryz
open _root_.Nat renaming le_refl→Aj,lt_succ_self→Bt
open Value renaming slice→Ak
section
variable {f r o s k wt:Int}{p:Pt}{A:Option Addr}{n c:Nat}{w:World}
theorem sX (hk:k<32)(w:World)(h:Ew ⟨f,r,o,s,wt⟩=true):Calls prog 65 #[Kb ⟨f,r,o,s,wt⟩,.int .i64 k] w fun e w'=>e=.returned (Uc Ep)∧An w w':=by
 have N0:=trivial;exact K18
theorem sZ {f r o s wt:Int}(w:World)(h:Ew ⟨f,r,o,s,wt⟩=true):Calls prog 65 #[Kb ⟨f,r,o,s,wt⟩,.int .i64 127] w fun e w'=>e=.returned (Uc Ep)∧An w w':=by
 have N1:=trivial;exact K18
theorem gU (df:¬k<32)(da:k≠127)(hw:wt≠0)(w:World)(h:Ew ⟨f,r,o,s,wt⟩=true):Calls prog 65 #[Kb ⟨f,r,o,s,wt⟩,.int .i64 k] w fun e w'=>e=.returned (Uc (Fr ⟨f,r,o,s,wt⟩ k))∧An w w':=by
 have N2:=trivial;exact K18
theorem mR (df:¬k<32)(da:k≠127)(hz:At ⟨f,r,o,s,0⟩ k=0)(w:World)(h:Ew ⟨f,r,o,s,0⟩=true):Calls prog 65 #[Kb ⟨f,r,o,s,0⟩,.int .i64 k] w fun e w'=>e=.returned (Uc Ep)∧An w w':=by
 have N0:=trivial;exact K9
theorem gM (df:¬k<32)(da:k≠127)(hz:At ⟨f,r,o,s,0⟩ k=2)(w:World)(h:Ew ⟨f,r,o,s,0⟩=true):Calls prog 65 #[Kb ⟨f,r,o,s,0⟩,.int .i64 k] w fun e w'=>e=.returned (Uc ⟨⟨f,r,o,s,k⟩,Cm.zero,1⟩)∧An w w':=by
 have N1:=trivial;exact K9
theorem gK (df:¬k<32)(da:k≠127)(hz:At ⟨f,r,o,s,0⟩ k=4)(w:World)(h:Ew ⟨f,r,o,s,0⟩=true):Calls prog 65 #[Kb ⟨f,r,o,s,0⟩,.int .i64 k] w fun e w'=>e=.returned (Uc ⟨⟨f,r,o,s,k⟩,Cm.zero,1⟩)∧An w w':=by
 have N2:=trivial;exact K9
theorem gJ (df:¬k<32)(da:k≠127)(hz:At ⟨f,r,o,s,0⟩ k=7)(w:World)(h:Ew ⟨f,r,o,s,0⟩=true):Calls prog 65 #[Kb ⟨f,r,o,s,0⟩,.int .i64 k] w fun e w'=>e=.returned (Uc ⟨⟨f,r,o,s,k⟩,Cm.zero,1⟩)∧An w w':=by
 have N3:=trivial;exact K9
theorem gH (df:¬k<32)(da:k≠127)(hz:At ⟨f,r,o,s,0⟩ k=8)(w:World)(h:Ew ⟨f,r,o,s,0⟩=true):Calls prog 65 #[Kb ⟨f,r,o,s,0⟩,.int .i64 k] w fun e w'=>e=.returned (Uc ⟨⟨f,r,o,s,k⟩,Cm.zero,1⟩)∧An w w':=by
 have N4:=trivial;exact K9
theorem eF (df:¬k<32)(da:k≠127)(hk:0≤k∧k≤255)(ho:o≠0)(hz:At ⟨f,r,o,s,0⟩ k=1)(w:World)(h:Ew ⟨f,r,o,s,0⟩=true):Calls prog 65 #[Kb ⟨f,r,o,s,0⟩,.int .i64 k] w fun e w'=>e=.returned (Uc ⟨⟨f,r,o,Du s k,0⟩,Cm.zero,1⟩)∧An w w':=by
 have N5:=trivial;exact K9
theorem mU (df:¬k<32)(da:k≠127)(hz:At ⟨f,r,o,s,0⟩ k=5)(w:World)(h:Ew ⟨f,r,o,s,0⟩=true):Calls prog 65 #[Kb ⟨f,r,o,s,0⟩,.int .i64 k] w fun e w'=>e=.returned (Uc ⟨Pt.zero,Mp ⟨f,r,o,s,0⟩ k 0,2⟩)∧An w w':=by
 have N6:=trivial;exact K9
theorem mT (df:¬k<32)(da:k≠127)(hz:At ⟨f,r,o,s,0⟩ k=6)(w:World)(h:Ew ⟨f,r,o,s,0⟩=true):Calls prog 65 #[Kb ⟨f,r,o,s,0⟩,.int .i64 k] w fun e w'=>e=.returned (Uc ⟨Pt.zero,Mp ⟨f,r,o,s,0⟩ k 0,2⟩)∧An w w':=by
 have N7:=trivial;exact K9
theorem gO (df:¬k<32)(da:k≠127)(ho:o≠0)(cw:o=k)(hz:At ⟨f,r,o,s,0⟩ k=3)(w:World)(h:Ew ⟨f,r,o,s,0⟩=true):Calls prog 65 #[Kb ⟨f,r,o,s,0⟩,.int .i64 k] w fun e w'=>e=.returned (Uc ⟨Pt.zero,Mp ⟨f,r,o,s,0⟩ k 0,2⟩)∧An w w':=by
 have N8:=trivial;exact K9
theorem gT {f r s k:Int}(df:¬k<32)(da:k≠127)(hk:0≤k∧k≤255)  (hz:At ⟨f,r,0,s,0⟩ k=1)(w:World)(h:Ew ⟨f,r,0,s,0⟩=true):Calls prog 65 #[Kb ⟨f,r,0,s,0⟩,.int .i64 k] w fun e w'=>e=.returned (Uc ⟨⟨Du f k,r,0,s,0⟩,Cm.zero,1⟩)∧An w w':=by
 have N9:=trivial;exact K9
theorem mP {f r s k:Int}(df:¬k<32)(da:k≠127)(hz:At ⟨f,r,0,s,0⟩ k=3)(w:World)(h:Ew ⟨f,r,0,s,0⟩=true):Calls prog 65 #[Kb ⟨f,r,0,s,0⟩,.int .i64 k] w fun e w'=>e=.returned (Uc ⟨⟨f,r,k,s,0⟩,Cm.zero,1⟩)∧An w w':=by
 have N10:=trivial;exact K9
theorem gR (df:¬k<32)(da:k≠127)(ho:o≠0)(cw:o≠k)(hz:At ⟨f,r,o,s,0⟩ k=3)(w:World)(h:Ew ⟨f,r,o,s,0⟩=true):Calls prog 65 #[Kb ⟨f,r,o,s,0⟩,.int .i64 k] w fun e w'=>e=.returned (Uc Ep)∧An w w':=by
 have N11:=trivial;exact K9
theorem iV (p:Pt)(k:Int):At p k=0∨At p k=1∨At p k=2∨At p k=3∨At p k=4∨At p k=5∨At p k=6∨At p k=7∨At p k=8:=by
 unfold At
 (repeat' split)<;>decide
theorem iW (h:At p k=1):0≤k∧k≤255:=by
 have Oa:Fc p k=true:=by
  unfold At at h;split at h
  ·assumption
  ·exfalso;revert h;(repeat' split)<;>decide
 unfold Fc at Oa;simp at Oa;omega
theorem Ul (w:World)(h:Ew p=true):Calls prog 65 #[Kb p,.int .i64 k] w fun e w'=>e=.returned (Uc (Bp p k))∧An w w':=by
 obtain⟨f,r,o,s,wt⟩:=p;by_cases df:k<32
 ·have e:Bp ⟨f,r,o,s,wt⟩ k=Ep:=by unfold Bp;rw[if_pos (.inl df)]
  rw[e];exact sX df w h
 by_cases da:k=127
 ·subst da
  have e:Bp ⟨f,r,o,s,wt⟩ 127=Ep:=by unfold Bp;rw[if_pos (.inr rfl)]
  rw[e];exact sZ w h
 have hn:¬(k<32∨k=127):=fun hh=>hh.elim df da
 by_cases hw:wt=0
 rotate_left
 ·have e:Bp ⟨f,r,o,s,wt⟩ k=Fr ⟨f,r,o,s,wt⟩ k:=by unfold Bp;rw[if_neg hn];exact if_pos hw
  rw[e];exact gU df da hw w h
 subst hw;rcases iV ⟨f,r,o,s,0⟩ k with hz|hz|hz|hz|hz|hz|hz|hz|hz
 ·have e:Bp ⟨f,r,o,s,0⟩ k=Ep:=by unfold Bp;rw[if_neg hn,if_neg (by simp)];simp[hz]
  rw[e];exact mR df da hz w h
 ·have hk:=iW hz
  by_cases ho:o=0
  ·subst ho
   have e:Bp ⟨f,r,0,s,0⟩ k=⟨⟨Du f k,r,0,s,0⟩,Cm.zero,1⟩:=by unfold Bp;rw[if_neg hn,if_neg (by simp)];simp[hz]
   rw[e];exact gT df da hk hz w h
  ·have e:Bp ⟨f,r,o,s,0⟩ k=⟨⟨f,r,o,Du s k,0⟩,Cm.zero,1⟩:=by unfold Bp;rw[if_neg hn,if_neg (by simp)];simp[hz,ho]
   rw[e];exact eF df da hk ho hz w h
 ·have e:Bp ⟨f,r,o,s,0⟩ k=⟨⟨f,r,o,s,k⟩,Cm.zero,1⟩:=by unfold Bp;rw[if_neg hn,if_neg (by simp)];simp[hz]
  rw[e];exact gM df da hz w h
 ·by_cases ho:o=0
  ·subst ho
   have e:Bp ⟨f,r,0,s,0⟩ k=⟨⟨f,r,k,s,0⟩,Cm.zero,1⟩:=by unfold Bp;rw[if_neg hn,if_neg (by simp)];simp[hz]
   rw[e];exact mP df da hz w h
  ·by_cases cw:o=k
   ·have e:Bp ⟨f,r,o,s,0⟩ k=⟨Pt.zero,Mp ⟨f,r,o,s,0⟩ k 0,2⟩:=by unfold Bp;rw[if_neg hn,if_neg (by simp)];rw[if_neg (by rw[hz];decide),if_neg (by rw[hz];decide),if_pos hz,if_neg ho,if_neg (fun hh=>hh cw)]
    rw[e];exact gO df da ho cw hz w h
   ·have e:Bp ⟨f,r,o,s,0⟩ k=Ep:=by unfold Bp;rw[if_neg hn,if_neg (by simp)];rw[if_neg (by rw[hz];decide),if_neg (by rw[hz];decide),if_pos hz,if_neg ho,if_pos cw]
    rw[e];exact gR df da ho cw hz w h
 ·have e:Bp ⟨f,r,o,s,0⟩ k=⟨⟨f,r,o,s,k⟩,Cm.zero,1⟩:=by unfold Bp;rw[if_neg hn,if_neg (by simp)];simp[hz]
  rw[e];exact gK df da hz w h
 ·have e:Bp ⟨f,r,o,s,0⟩ k=⟨Pt.zero,Mp ⟨f,r,o,s,0⟩ k 0,2⟩:=by unfold Bp;rw[if_neg hn,if_neg (by simp)];simp[hz]
  rw[e];exact mU df da hz w h
 ·have e:Bp ⟨f,r,o,s,0⟩ k=⟨Pt.zero,Mp ⟨f,r,o,s,0⟩ k 0,2⟩:=by unfold Bp;rw[if_neg hn,if_neg (by simp)];simp[hz]
  rw[e];exact mT df da hz w h
 ·have e:Bp ⟨f,r,o,s,0⟩ k=⟨⟨f,r,o,s,k⟩,Cm.zero,1⟩:=by unfold Bp;rw[if_neg hn,if_neg (by simp)];simp[hz]
  rw[e];exact gJ df da hz w h
 ·have e:Bp ⟨f,r,o,s,0⟩ k=⟨⟨f,r,o,s,k⟩,Cm.zero,1⟩:=by unfold Bp;rw[if_neg hn,if_neg (by simp)];simp[hz]
  rw[e];exact gH df da hz w h
theorem uY (w:World)(h:Ew p=true):Calls prog 65 #[Kb p,.int .i64 k] w fun e w'=>e=.returned (Uc (Bp p k))∧An w w':=Ul w h
structure Al where
 out:List Cm
 p:Pt
 wrong:Nat
def F8 (a:Al)(k:Int):Al:=
 ⟨if(Bp a.p k).how=2 then a.out++[(Bp a.p k).c]else a.out,(Bp a.p k).p,if(Bp a.p k).how=3 then a.wrong+1 else a.wrong⟩
def Dr (a:Al)(l:List Int):Al:=l.foldl F8 a
def Fw (l:List Int):Al:=Dr ⟨[],Pt.zero,0⟩ l
theorem Nm (a:Al)(l m:List Int):Dr a (l++m)=Dr (Dr a l) m:=by unfold Dr;rw[List.foldl_append]
theorem qP {l:List Int}{j:Nat}(h:j<l.length):Fw (l.take (j+1))=F8 (Fw (l.take j)) (gI l j):=by
 unfold Fw;rw[List.take_succ_eq_append_getElem h,Nm];simp[Dr,gI,List.getElem?_eq_getElem h]
theorem lE:∀(l:List Int) (a:Al),Ew a.p=true→Ew (Dr a l).p=true∧(Dr a l).out.length+(Dr a l).wrong≤a.out.length+a.wrong+l.length∧a.wrong≤(Dr a l).wrong∧∃m,(Dr a l).out=a.out++m
 |[],a,h=>⟨h,by simp[Dr],Aj _,[],by simp[Dr]⟩
 |k::l,a,h=>by
  have h1:=(Kk (k:=k) h).1;obtain⟨k1,k2,k3,m,k4⟩:=lE l (F8 a k) h1;have e:Dr a (k::l)=Dr (F8 a k) l:=rfl;rw[e];refine⟨k1,?_,?_,?_⟩
  ·have:(F8 a k).out.length+(F8 a k).wrong≤a.out.length+a.wrong+1:=by
    unfold F8;simp only;split
    ·rename_i h2;rw[if_neg (by omega)];simp;omega
    ·split<;>omega
   simp only[List.length_cons];omega
  ·have:a.wrong≤(F8 a k).wrong:=by
    unfold F8;simp only;split<;>omega
   omega
  ·rw[k4]
   unfold F8;simp only;split
   ·exact⟨[(Bp a.p k).c]++m,by simp⟩
   ·exact⟨m,rfl⟩
theorem J1u (l:List Int):Ew (Fw l).p=true∧(Fw l).out.length+(Fw l).wrong≤l.length:=by
 obtain⟨h1,h2,_⟩:=lE l ⟨[],Pt.zero,0⟩ Mg;exact⟨h1,by unfold Fw;simpa using h2⟩
def qU (c:Cm):List Value:=[.int .i64 c.count,.int .i64 c.reg,.int .i64 c.op,.int .i64 c.verb,.int .i64 c.arg]
def Mn (l:List Cm):List Value:=l.flatMap qU
theorem nK (l:List Cm)(c:Cm):Mn (l++[c])=Mn l++qU c:=by simp[Mn]
theorem vJ:(prog.info? 62).map (fun i=>(i.zero,i.size,i.bytes))=some (some (.agg #[(0:Int),(0:Int),(0:Int),(0:Int),(0:Int)]),5,40):=by kernel_rfl
def yC (w:World)(g:Nat)(p:Pt):Prop:=Aq w g 34 #[.int .i64 p.first,.int .i64 p.reg,.int .i64 p.op,.int .i64 p.second,.int .i64 p.wait]
theorem J0a {l:List Int}(hl:Bj w A n c l)(hn:n≤4194304):
 Calls prog 43 #[.slice A n c] w fun e w'=>∃O q d,e=.returned (.tuple #[.slice O q d,Kb (Fw l).p,.int .i64 (Fw l).wrong])∧Rd w' 5 O q d (Mn (Fw l).out)∧An w w':=by
 obtain⟨i0,hi,bm,bz,az⟩:=info_parts vJ;have ab:=A6 hl.len;have ap:=(Aq.new w 34 #[.int .i64 0,.int .i64 0,.int .i64 0,.int .i64 0,.int .i64 0]).ext (An.alloc _ (.cells #[(0:Int),(0:Int),(0:Int),(0:Int),(0:Int)] 34));have eo:=Aq.new (w.alloc (.cells #[(0:Int),(0:Int),(0:Int),(0:Int),(0:Int)] 34)) 34 #[.int .i64 0,.int .i64 0,.int .i64 0,.int .i64 0,.int .i64 0];rw[show(w.alloc (.cells #[(0:Int),(0:Int),(0:Int),(0:Int),(0:Int)] 34)).heap.size=w.heap.size+1 by simp]at eo
 have hx:=(An.alloc w (.cells #[(0:Int),(0:Int),(0:Int),(0:Int),(0:Int)] 34)).to_alloc (.cells #[(0:Int),(0:Int),(0:Int),(0:Int),(0:Int)] 34);have e0:Fw (l.take 0)=⟨[],Pt.zero,0⟩:=by simp[Fw,Dr]
 have HI:=A6 hi;clear hi;go_enter func43,ntmps43
 go_wp2_with fail
 go_loopw [5,7,16] (fun v z iv wr=>∃(j q d:Nat) (O:Option Addr),j≤n∧v=.slice O q d∧z=.int .i64 (Fw (l.take j)).wrong∧iv=.int .i64 j∧Bd wr (w.heap.size+2) 62 5 O q d (Mn (Fw (l.take j)).out)∧
  Hid (yC wr w.heap.size Pt.zero)∧Hid (yC wr (w.heap.size+1) (Fw (l.take j)).p)∧An w wr) (fun _ _ iv _=>n-(intOf iv).toNat)
 case atStart=>exact⟨0,0,0,none,by omega,rfl,by rw[e0];rfl,rfl,by rw[e0];exact Bd.nil _ _ _ _,A6 ap,A6 (by rw[e0];exact eo),hx⟩
 case round=>
  clear ap eo hx e0;obtain⟨j,q,d,O,hj,rfl,rfl,rfl,ac,H3,H6,he⟩:=hrel;by_cases ae:j<n
  ·obtain⟨ad,rfl,hc⟩:=hl.at_ ae
   have d1:=he.cell (hc j ae);have oZ:j<l.length:=by rw[ab.out];exact ae
   have qp:=qP oZ;have cw:=J1u (l.take j);have tv:=cw.2;rw[List.length_take]at tv;have HT:=A6 (Ul (k:=gI l j) wr cw.1);have ta:Hid (Fw (l.take (j+1))=F8 (Fw (l.take j)) (gI l j)):=A6 qp;have dr:5*(Fw (l.take j)).out.length=q*5:=by
    have h1:=(Bd.rd ac).len;have h2:∀m:List Cm,(Mn m).length=5*m.length:=fun m=>by
     induction m with
     |nil=>rfl
     |cons x m ih=>
      have:Mn (x::m)=qU x++Mn m:=rfl;rw[this,List.length_append,ih];simp[qU];omega
    rw[h2]at h1;exact h1
   have hq:q≤4194304:=by omega
   have NX:(Fw (l.take j)).wrong≤4194304:=by omega
   unfold yC at H6;unfold Kb Uc Kb xN at HT;rcases hA:Fw (l.take j)with⟨out,p0,wrong⟩;rw[hA]at ac H6 HT ta dr NX;simp only at ac H6 HT dr NX;obtain⟨f0,f1,f2,f3,f4⟩:=p0;rcases ht:Bp ⟨f0,f1,f2,f3,f4⟩ (gI l j)with⟨tp,tc,th⟩;unfold F8 at ta;simp only at ta;rw[ht]at HT ta;obtain⟨p0,p1,p2,p3,p4⟩:=tp;obtain⟨u0,u1,u2,u3,u4⟩:=tc;simp only at HT ta H6;obtain⟨⟨c0,c1,c2,c3,c4⟩,⟨g0,g1,g2,g3,g4⟩⟩:=H6.out.five;clear qp cw tv hA ht dr hc;go_wp2_with fail
   refine HT.out.mono ?_
   rintro e w2 ⟨rfl,au⟩;have NY:=A6 (H6.out.ext au);have HD3:=A6 (Aq.ext H3.out au);have dh:=Bd.ext ac au;have ug:=A6 (he.trans au);obtain⟨⟨x0,x1,x2,x3,x4⟩,⟨y0,y1,y2,y3,y4⟩⟩:=(NY.out.ext ((An.alloc w2 (.cells #[p0,p1,p2,p3,p4] 34)).to_alloc (.cells #[u0,u1,u2,u3,u4] 62))).five;have wu:=NY.out.lt;have n1:¬w.heap.size+1=w2.heap.size:=by omega
   have n2:¬w2.heap.size=w.heap.size+1:=by omega
   have n3:¬w.heap.size=w2.heap.size:=by omega
   have n4:¬w2.heap.size+1=w.heap.size:=by omega
   have n5:¬w2.heap.size=w.heap.size:=by omega
   have n6:¬w.heap.size=w2.heap.size+1:=by omega
   clear HT H6 H3 ac he au d1 c0 c1 c2 c3 c4 g0 g1 g2 g3 g4 wu
   iterate 46 (first|go_values|go_skip|go_guarded|go_step|go_upon|go_back|(simp only[Int.not_lt,Int.not_le]at *;go_simp))
   have ea:=(An.alloc w2 (.cells #[p0,p1,p2,p3,p4] 34)).to_alloc (.cells #[u0,u1,u2,u3,u4] 62);have hbC:Aq ((w2.alloc (.cells #[p0,p1,p2,p3,p4] 34)).alloc (.cells #[u0,u1,u2,u3,u4] 62)) (w2.heap.size+1) 62 #[.int .i64 u0,.int .i64 u1,.int .i64 u2,.int .i64 u3,.int .i64 u4]:=by
    have:=Aq.new (w2.alloc (.cells #[p0,p1,p2,p3,p4] 34)) 62 #[.int .i64 u0,.int .i64 u1,.int .i64 u2,.int .i64 u3,.int .i64 u4]
    simpa using this
   have hl6:=NY.out.lt;have eo:=Mm (.int .i64 p0) (.int .i64 p1) (.int .i64 p2) (.int .i64 p3) (.int .i64 p4) (NY.out.ext ea);have ap:=D1 (.int .i64 p0) (.int .i64 p1) (.int .i64 p2) (.int .i64 p3) (.int .i64 p4) (Aq.ext HD3.out ea) (show w.heap.size+1≠w.heap.size by omega)
   have HU:=D1 (.int .i64 p0) (.int .i64 p1) (.int .i64 p2) (.int .i64 p3) (.int .i64 p4) hbC (show w.heap.size+1≠w2.heap.size+1 by omega)
   have hE:=Do (.int .i64 p0) (.int .i64 p1) (.int .i64 p2) (.int .i64 p3) (.int .i64 p4) (ug.out.trans ea) (Nat.le_succ w.heap.size);have hO:=(Bd.setCell (Bd.setCell (Bd.setCell (Bd.setCell (Bd.setCell (Bd.ext dh ea) (p:=⟨w.heap.size+1,0,none⟩) (Bt _) (.int .i64 p0)) (p:=⟨w.heap.size+1,1,none⟩) (Bt _) (.int .i64 p1)) (p:=⟨w.heap.size+1,2,none⟩) (Bt _) (.int .i64 p2)) (p:=⟨w.heap.size+1,3,none⟩) (Bt _) (.int .i64 p3)) (p:=⟨w.heap.size+1,4,none⟩) (Bt _) (.int .i64 p4));clear NY HD3 ug dh x0 x1 x2 x3 x4 y0 y1 y2 y3 y4 n1 n2 n3 n4 n5 n6 ea hbC hl6
   revert eo ap HU hE hO
   generalize (((((((w2.alloc (.cells #[p0,p1,p2,p3,p4] 34)).alloc (.cells #[u0,u1,u2,u3,u4] 62)).setCell ⟨w.heap.size+1,0,none⟩ p0).setCell ⟨w.heap.size+1,1,none⟩ p1).setCell ⟨w.heap.size+1,2,none⟩ p2).setCell ⟨w.heap.size+1,3,none⟩ p3).setCell ⟨w.heap.size+1,4,none⟩ p4)=W;intro eo ap HU hE hO;have SM:=A6 eo;have SN:=A6 ap;have HE:=A6 hE;have HO:=A6 hO;obtain⟨⟨v0,v1,v2,v3,v4⟩,_⟩:=HU.five;have hl6:=eo.lt;clear eo ap HU hO;by_cases h2:th=2
   ·subst h2
    have ac:=HO.out;have hi:=HI.out;go_wp2_with (at_builtin;refine C9 rfl (.tmp 32) (.tmp 34) 71 rfl w (w.heap.size+2) 62 i0 _ 5 40 underlying71 hi bm bz az rfl (by decide) O q d _ rfl ac #[u0,u1,u2,u3,u4] rfl ?_ rfl ?_ ?_ hE (by omega) (by omega) ?_)
    ·exact⟨rfl,rfl,rfl,rfl,rfl⟩
    ·unfold maxLen;omega
    ·omega
    ·intro O2 d2 w5 db av cf WU
     have NK:(Ak O q d).ownBlock≠some (w.heap.size+1):=fun e=>by have:=(Bd.blk HO.out _ e).1;omega
     have GN:(Ak O q d).ownBlock≠some w.heap.size:=fun e=>by have:=(Bd.blk HO.out _ e).1;omega
     have K6:=A6 (SM.out.grown av (fun e=>NK e.symm))
     have K3:=A6 (Aq.grown SN.out av (fun e=>GN e.symm))
     have GW:=A6 db;clear db av cf ac hi hE v0 v1 v2 v3 v4 NK GN SM SN HE HO;go_wp2_with fail
     go_roundw
     case rel=>exact⟨j+1,q+1,d2,O2,by omega,rfl,by rw[ta.out];simp,by go_num,by rw[ta.out];simp only[if_true];rw[nK];exact GW.out,K3,A6 (by rw[ta.out];exact K6.out),WU⟩
     case measure=>simp[intOf];omega
   ·have h2b:(th==2)=false:=by simpa using h2
    by_cases h3:th=3
    ·subst h3
     clear v0 v1 v2 v3 v4;go_wp2_with fail
     go_roundw
     case rel=>exact⟨j+1,q,d,O,by omega,rfl,by rw[ta.out];simp only[if_true];go_num,by go_num,by rw[ta.out];simpa using HO.out,SN,A6 (by rw[ta.out];exact SM.out),HE.out⟩
     case measure=>simp[intOf];omega
    ·have h3b:(th==3)=false:=by simpa using h3
     clear v0 v1 v2 v3 v4;go_wp2_with fail
     go_roundw
     case rel=>exact⟨j+1,q,d,O,by omega,rfl,by rw[ta.out];simp[h3],by go_num,by rw[ta.out];simp only[if_neg h2];exact HO.out,SN,A6 (by rw[ta.out];exact SM.out),HE.out⟩
     case measure=>simp[intOf];omega
  ·obtain rfl:j=n:=by omega
   have mq:l.take j=l:=List.take_of_length_le (by rw[ab.out];exact Aj _)
   rw[mq]at ac H6 ⊢;unfold yC at H6 H3;rcases hA:Fw l with⟨out,⟨p0,p1,p2,p3,p4⟩,wrong⟩;rw[hA]at ac H6;have HA:=A6 hA;simp only at ac H6 ⊢;obtain⟨⟨c0,c1,c2,c3,c4⟩,_⟩:=H6.out.five;obtain⟨⟨x0,x1,x2,x3,x4⟩,⟨y0,y1,y2,y3,y4⟩⟩:=H3.out.five;have hB:=Mm (.int .i64 p0) (.int .i64 p1) (.int .i64 p2) (.int .i64 p3) (.int .i64 p4) ((show Aq wr.drew w.heap.size 34 _ from H3.out))
   have dq:=Do (.int .i64 p0) (.int .i64 p1) (.int .i64 p2) (.int .i64 p3) (.int .i64 p4) he.to_drew (Aj w.heap.size);have WV:=H3.out.lt;have hr:=A6 (Bd.rd ((Bd.setCell (Bd.setCell (Bd.setCell (Bd.setCell (Bd.setCell (Bd.ext ac (An.drew wr)) (p:=⟨w,0,none⟩) (show w.heap.size<w.heap.size+2 by omega) (.int .i64 p0)) (p:=⟨w,1,none⟩) (show w.heap.size<w.heap.size+2 by omega) (.int .i64 p1)) (p:=⟨w,2,none⟩) (show w.heap.size<w.heap.size+2 by omega) (.int .i64 p2)) (p:=⟨w,3,none⟩) (show w.heap.size<w.heap.size+2 by omega) (.int .i64 p3)) (p:=⟨w,4,none⟩) (show w.heap.size<w.heap.size+2 by omega) (.int .i64 p4))))
   obtain⟨⟨e0,e1,e2,e3,e4⟩,_⟩:=hB.five;have m0:(wr.setCell ⟨w,0,none⟩ p0).cell? ⟨w,0,none⟩=some (.int .i64 p0):=by have:=(Aq.set_ H3.out 0 (.int .i64 p0)).cell 0;simpa using this
   have m1:((wr.setCell ⟨w,0,none⟩ p0).setCell ⟨w,1,none⟩ p1).cell? ⟨w,1,none⟩=some (.int .i64 p1):=by have:=(Aq.set_ (Aq.set_ H3.out 0 (.int .i64 p0)) 1 (.int .i64 p1)).cell 1;simpa using this
   have m2:(((wr.setCell ⟨w,0,none⟩ p0).setCell ⟨w,1,none⟩ p1).setCell ⟨w,2,none⟩ p2).cell? ⟨w,2,none⟩=some (.int .i64 p2):=by have:=(Aq.set_ (Aq.set_ (Aq.set_ H3.out 0 (.int .i64 p0)) 1 (.int .i64 p1)) 2 (.int .i64 p2)).cell 2;simpa using this
   have m3:((((wr.setCell ⟨w,0,none⟩ p0).setCell ⟨w,1,none⟩ p1).setCell ⟨w,2,none⟩ p2).setCell ⟨w,3,none⟩ p3).cell? ⟨w,3,none⟩=some (.int .i64 p3):=by have:=(Aq.set_ (Aq.set_ (Aq.set_ (Aq.set_ H3.out 0 (.int .i64 p0)) 1 (.int .i64 p1)) 2 (.int .i64 p2)) 3 (.int .i64 p3)).cell 3;simpa using this
   have m4:(((((wr.setCell ⟨w,0,none⟩ p0).setCell ⟨w,1,none⟩ p1).setCell ⟨w,2,none⟩ p2).setCell ⟨w,3,none⟩ p3).setCell ⟨w,4,none⟩ p4).cell? ⟨w,4,none⟩=some (.int .i64 p4):=by have:=(Aq.set_ (Aq.set_ (Aq.set_ (Aq.set_ (Aq.set_ H3.out 0 (.int .i64 p0)) 1 (.int .i64 p1)) 2 (.int .i64 p2)) 3 (.int .i64 p3)) 4 (.int .i64 p4)).cell 4;simpa using this
   clear hB ac hA H6 H3 he;go_wp2_with fail
   go_region_with fail
   all_goals
    go_wp2_with fail
    refine bodyPost_ret (by simp[results,results43,go_sem,e0,e1,e2,e3,e4,m0,m1,m2,m3,m4];try rfl) rfl ?_
    exact⟨O,q,d,by rw[HA.out];rfl,by rw[HA.out];exact hr.out,dq⟩
def Lr (n:Int):List Int:=(if 100≤n then [48+n/100%10]else [])++((if 10≤n then [48+n/10%10]else [])++(if 1≤n then [48+n%10]else []))
def Pj (c:Cm):Bool:=if Ex c.verb||c.verb==114 then true else if c.verb==105||c.verb==97 then c.op !=0 else false
def Uz (c:Cm):List Int:=if c.reg=0 then []else [34,c.reg]
def Te (c:Cm):List Int:=if c.op=0 then []else [c.op]
def V1 (c:Cm):List Int:=if Pj c=true then [c.arg]else []
def En (c:Cm):List Int:=Uz c++(Lr c.count++(Te c++([c.verb]++V1 c)))
def fN (c:Cm):Prop:=
 0≤c.count∧c.count≤999∧(c.reg=0∨Qq c.reg=true)∧(c.op=0∨Fu c.op=true)∧
  (
   (c.op≠0∧c.verb=c.op∧c.arg=0)∨(Jn c.verb=true∧c.arg=0∧(c.verb=48→c.op=0→c.count=0))∨(c.op=0∧c.arg=0∧(Ff c.verb=true∨c.verb=105∨c.verb=97))∨
   (Ex c.verb=true∧32≤c.arg∧c.arg≠127)∨(c.op=0∧c.verb=114∧32≤c.arg∧c.arg≠127)∨(c.op≠0∧(c.verb=105∨c.verb=97)∧qZ c.arg=true∧32≤c.arg∧c.arg≠127))
theorem Tz {c:Int}(h:Fu c=true):c=100∨c=99∨c=121:=by
 unfold Fu at h
 simpa[or_assoc]using h
theorem dP (h:Ew p=true):0≤p.first∧p.first≤999∧0≤p.second∧p.second≤999∧(p.op=0→p.second=0)∧(p.reg=0∨Qq p.reg=true)∧(p.op=0∨Fu p.op=true)∧Dc p=true:=by
 unfold Ew Le Pr at h;simp at h;obtain⟨⟨⟨⟨⟨⟨h1,h2⟩,h3⟩,h4⟩,h5⟩,h6,h7⟩,h8⟩:=h;refine⟨h1,h2,h3,h4,fun ho=>?_,h6,h7,h8⟩
 rcases h5 with h|h
 ·omega
 ·exact absurd ho h
theorem J2w (h:Ew p=true):0≤Qp p∧Qp p≤999:=by
 obtain⟨h1,h2,h3,h4,_⟩:=dP h;unfold Qp;split
 ·exact⟨h3,h4⟩
 ·split
  ·exact⟨h1,h2⟩
  ·have:=Int.mul_nonneg h1 h3
   omega
theorem Sa (h:Ew p=true)(h2:(Bp p k).how=2):fN (Bp p k).c:=by
 obtain⟨t1,t2⟩:=J2w h;obtain⟨b1,b2,b3,b4,b5,b6,b7,b8⟩:=dP h
 revert h2
 unfold Bp;split
 ·intro h2;simp[Ep]at h2
 rename_i hk;have fv:32≤k:=by omega
 have fx:k≠127:=by omega
 split
 ·rename_i hw
  unfold Fr;split
  ·split<;>intro h2<;>simp[Ep]at h2
  ·rename_i dx
   have NZ:p.wait≠34:=by simpa using dx
   split
   ·rename_i hi
    split
    ·rename_i ho
     intro _;have hi':p.wait=105∨p.wait=97:=by simpa using hi
     have ij:p.op≠0:=by
      unfold Dc at b8;rw[if_neg (by simp;omega),if_neg (by simp;omega),if_pos hi]at b8
      simpa using b8
     exact⟨t1,t2,b6,b7,.inr (.inr (.inr (.inr (.inr ⟨ij,hi',ho,fv,fx⟩))))⟩
    ·intro h2;simp[Ep]at h2
   ·rename_i hi
    intro _;have hi':p.wait≠105∧p.wait≠97:=by simpa using hi
    unfold Dc at b8;split at b8
    ·rename_i hf
     have hf':Ex p.wait=true:=by
      simp at hf;unfold Ex;simp;omega
     exact⟨t1,t2,b6,b7,.inr (.inr (.inr (.inl ⟨hf',fv,fx⟩)))⟩
    ·split at b8
     ·rename_i hr
      have AF:p.wait=114:=by
       simp at hr;omega
      have ij:p.op=0:=by
       simp at b8;exact b8.1
      exact⟨t1,t2,b6,b7,.inr (.inr (.inr (.inr (.inl ⟨ij,AF,fv,fx⟩))))⟩
     ·cases b8
 ·rename_i hw
  split
  ·split<;>intro h2<;>simp at h2
  ·rename_i WW
   split
   ·intro h2;simp at h2
   ·split
    ·split
     ·intro h2;simp at h2
     ·split
      ·intro h2;simp[Ep]at h2
      ·rename_i ho hko
       have WX:p.op=k:=by simpa using hko
       intro _;exact⟨t1,t2,b6,b7,.inl ⟨ho,WX.symm,rfl⟩⟩
    ·split
     ·rename_i oe
      intro _;refine⟨t1,t2,b6,b7,?_⟩
      have hd:Fc p k=false:=by
       cases hd:Fc p k with
       |false=>rfl
       |true=>exfalso;apply WW;unfold At;rw[if_pos hd]
      unfold At at oe;rw[if_neg (by rw[hd];simp)]at oe
      by_cases ho:Fu k=true
      ·rw[if_pos ho]at oe;omega
      rw[if_neg ho]at oe;by_cases hm:Jn k=true
      ·refine .inr (.inl ⟨hm,rfl,fun JX h0=>?_⟩)
       have WY:k=48:=JX;have RM:p.op=0:=h0;subst WY;unfold Fc Rt at hd;simp[RM]at hd
       show Qp p=0
       unfold Qp;have:p.first=0:=by omega
       rw[if_pos (by simpa using this)]
       exact b5 RM
      rw[if_neg hm]at oe;by_cases hf:Ex k=true
      ·rw[if_pos hf]at oe;omega
      rw[if_neg hf]at oe;by_cases hi:(k==105||k==97)=true
      ·rw[if_pos hi]at oe
       by_cases hp:p.op=0
       ·have UR:k=105∨k=97:=by simpa using hi
        exact .inr (.inr (.inl ⟨hp,rfl,.inr UR⟩))
       ·rw[if_pos (by simpa using hp)]at oe;omega
      rw[if_neg hi]at oe;by_cases hp:p.op=0
      ·rw[if_neg (by simpa using hp)]at oe
       by_cases dx:(k==34)=true
       ·rw[if_pos dx]at oe;split at oe<;>omega
       rw[if_neg dx]at oe;by_cases Ob:(k==114)=true
       ·rw[if_pos Ob]at oe;omega
       rw[if_neg Ob]at oe;by_cases eb:Ff k=true
       ·exact .inr (.inr (.inl ⟨hp,rfl,.inl eb⟩))
       ·rw[if_neg eb]at oe;omega
      ·rw[if_pos (by simpa using hp)]at oe;omega
     ·intro h2;simp[Ep]at h2
theorem Hf (a:Al)(k:Int)(l:List Int):Dr a (k::l)=Dr (F8 a k) l:=rfl
theorem Q4 (c:Cm):(En c).length≤8:=by
 unfold En Uz Lr Te V1;have h1:(if c.reg=0 then([]:List Int)else [34,c.reg]).length≤2:=by split<;>simp
 have h2:(if 100≤c.count then [48+c.count/100%10]else([]:List Int)).length≤1:=by split<;>simp
 have h3:(if 10≤c.count then [48+c.count/10%10]else([]:List Int)).length≤1:=by split<;>simp
 have h4:(if 1≤c.count then [48+c.count%10]else([]:List Int)).length≤1:=by split<;>simp
 have h5:(if c.op=0 then([]:List Int)else [c.op]).length≤1:=by split<;>simp
 have h6:(if Pj c=true then [c.arg]else([]:List Int)).length≤1:=by split<;>simp
 simp only[List.length_append,List.length_singleton];omega
theorem dW:∀(l:List Int) (a:Al),Ew a.p=true→(∀c∈a.out,fN c)→∀c∈(Dr a l).out,fN c
 |[],a,_,h=>h
 |k::l,a,hp,h=>by
  rw[Hf];refine dW l (F8 a k) (Kk (k:=k) hp).1 ?_
  intro c hc;unfold F8 at hc;simp only at hc;split at hc
  ·rcases List.mem_append.1 hc with hc|hc
   ·exact h c hc
   ·rw[List.mem_singleton.1 hc]
    exact Sa hp ‹_›
  ·exact h c hc
theorem sV (l:List Int):∀c∈(Fw l).out,fN c:=dW l _ Mg (by simp)
theorem M9 (h:k<32):(Bp p k).how=3:=by unfold Bp;rw[if_pos (.inl h)];rfl
theorem yK (hc:Ew p=true)(h:(Bp p k).how=1):(Bp p k).p≠Pt.zero:=by
 have hk:¬k<32:=fun e=>by rw[M9 e]at h;exact absurd (show(3:Int)=1 from h) (by decide)
 obtain⟨f,r,o,s,wt⟩:=p;obtain⟨h1,h2,h3,h4,h5,hr,je,kj⟩:=Gf hc;intro hz;have z1:=congrArg Pt.first hz;have z2:=congrArg Pt.reg hz;have z3:=congrArg Pt.op hz;have z4:=congrArg Pt.second hz;have z5:=congrArg Pt.wait hz;clear hz hc;have WZ:At ⟨f,r,o,s,wt⟩ k=1→(49≤k∧k≤57)∨(k=48∧0<Rt ⟨f,r,o,s,wt⟩):=fun e=>by
  by_cases hd:Fc ⟨f,r,o,s,wt⟩ k=true
  ·unfold Fc at hd
   simpa using hd
  ·exfalso
   unfold At at e;rw[if_neg hd]at e
   (repeat' split at e)<;>exact absurd e (by decide)
 unfold Bp Fr at h z1 z2 z3 z4 z5;by_cases c1:k<32∨k=127
 ·rw[if_pos c1]at h;exact absurd (show(3:Int)=1 from h) (by decide)
 rw[if_neg c1]at h z1 z2 z3 z4 z5;by_cases c2:wt≠0
 ·rw[if_pos c2]at h z1 z2 z3 z4 z5
  by_cases c3:(wt==34)=true
  ·rw[if_pos c3]at h z1 z2 z3 z4 z5
   by_cases c4:Qq k=true
   ·rw[if_pos c4]at z2
    have z2:k=0:=z2;omega
   ·rw[if_neg c4]at h;exact absurd (show(3:Int)=1 from h) (by decide)
  ·rw[if_neg c3]at h
   (repeat' split at h)<;>(first|exact absurd (show(2:Int)=1 from h) (by decide)|exact absurd (show(3:Int)=1 from h) (by decide))
 rw[if_neg c2]at h z1 z2 z3 z4 z5;by_cases c3:At ⟨f,r,o,s,wt⟩ k=1
 ·rw[if_pos c3]at z1 z4
  have hd:=WZ c3;unfold Rt at hd;by_cases c4:o≠0
  ·rw[if_pos c4]at z4
   have z4:Du s k=0:=z4;unfold Du at z4;have:(o==0)=false:=by simpa using c4
   simp only[this,Bool.false_eq_true,if_false]at hd;omega
  ·rw[if_neg c4]at z1
   have z1:Du f k=0:=z1;unfold Du at z1;have:(o==0)=true:=by simpa using c4
   simp only[this,if_true]at hd;omega
 rw[if_neg c3]at h z1 z2 z3 z4 z5;by_cases c4:At ⟨f,r,o,s,wt⟩ k=2∨At ⟨f,r,o,s,wt⟩ k=4∨At ⟨f,r,o,s,wt⟩ k=7∨At ⟨f,r,o,s,wt⟩ k=8
 ·rw[if_pos c4]at z5
  have z5:k=0:=z5;omega
 rw[if_neg c4]at h z3;by_cases c5:At ⟨f,r,o,s,wt⟩ k=3
 ·rw[if_pos c5]at h z3
  by_cases c6:o=0
  ·rw[if_pos c6]at z3
   have z3:k=0:=z3;omega
  ·rw[if_neg c6]at h
   (repeat' split at h)<;>(first|exact absurd (show(2:Int)=1 from h) (by decide)|exact absurd (show(3:Int)=1 from h) (by decide))
 rw[if_neg c5]at h
 (repeat' split at h)<;>(first|exact absurd (show(2:Int)=1 from h) (by decide)|exact absurd (show(3:Int)=1 from h) (by decide))
theorem cT (l:List Cm):(Mn l).length=5*l.length:=by
 induction l with
 |nil=>rfl
 |cons x l ih=>
  have:Mn (x::l)=qU x++Mn l:=rfl;rw[this,List.length_append,ih];simp[qU];omega
theorem kV:∀(l:List Cm) (k:Nat) (h:k<l.length) (i:Nat),i<5→(Mn l)[k*5+i]? = (qU l[k])[i]?
 |[],k,h,_,_=>by simp at h
 |x::l,0,h,i,hi=>by
  have:Mn (x::l)=qU x++Mn l:=rfl;rw[this,List.getElem?_append_left (by simp[qU];omega)]
  simp
 |x::l,k+1,h,i,hi=>by
  have:Mn (x::l)=qU x++Mn l:=rfl;have e:(qU x).length=5:=rfl;rw[this,List.getElem?_append_right (by rw[e];omega),e,show(k+1)*5+i-5=k*5+i by omega,kV l k (by simpa using h) i hi]
  simp
def Cms (w:World)(A:Option Addr)(n c:Nat)(l:List Cm):Prop:=Rd w 5 A n c (Mn l)
theorem Cms.len {l:List Cm}(h:Cms w A n c l):l.length=n:=by
 have h1:=Rd.len h;rw[cT]at h1;omega
theorem Cms.at_ {l:List Cm}(h:Cms w A n c l){k:Nat}(hk:k<n):∃ad x,A=some ad∧l[k]? = some x∧
 w.cell? (ad.add (k*5))=some (.int .i64 x.count)∧w.cell? ⟨(ad.add (k*5)).block,(ad.add (k*5)).off+1,none⟩=some (.int .i64 x.reg)∧w.cell? ⟨(ad.add (k*5)).block,(ad.add (k*5)).off+2,none⟩=some (.int .i64 x.op)∧w.cell? ⟨(ad.add (k*5)).block,(ad.add (k*5)).off+3,none⟩=some (.int .i64 x.verb)∧w.cell? ⟨(ad.add (k*5)).block,(ad.add (k*5)).off+4,none⟩=some (.int .i64 x.arg):=by
 obtain⟨ad,e,hc⟩:=Rd.at_ h hk;have hl:=Cms.len h;have pz:k<l.length:=by omega
 have f:=fun i hi=>kV l k pz i hi
 refine⟨ad,l[k],e,List.getElem?_eq_getElem pz,hc _ _ (by have:=f 0 (by omega);simpa[qU]using this),?_,?_,?_,?_⟩
 ·have:=hc _ _ (show(Mn l)[k*5+1]? = some _ by rw[f 1 (by omega)];rfl)
  rw[←Gu]at this;exact this
 ·have:=hc _ _ (show(Mn l)[k*5+2]? = some _ by rw[f 2 (by omega)];rfl)
  rw[←Gu]at this;exact this
 ·have:=hc _ _ (show(Mn l)[k*5+3]? = some _ by rw[f 3 (by omega)];rfl)
  rw[←Gu]at this;exact this
 ·have:=hc _ _ (show(Mn l)[k*5+4]? = some _ by rw[f 4 (by omega)];rfl)
  rw[←Gu]at this;exact this
end
