/-
  Part ZMapV.
-/
import Derived.Test.YtiahhfglhlgfiaaGreatZWordW
import Derived.Maps.OwnOps
import Derived.Maps.Views
import Derived.IntWalk
set_option maxRecDepth 100000
set_option maxHeartbeats 16000000
set_option linter.unusedVariables false
set_option linter.unusedSimpArgs false
namespace Go.Proofs.YtiahhfglhlgfiaaGreat
open Go.RowKit
open _root_.List renaming getElem?_cons_succ→Af,getElem?_cons_zero→Ae,getElem?_toArray→Ag,length_map→D8
open _root_.Nat renaming le_refl→Ai
open Value renaming int→Aq,slice→Aj
section
variable {A:Option Addr}{w:World}{n c k g j X:Nat}{op big:Bool}{o:Option (Nat×Bool)}{l:List Int}{arg:Int}{st:Int→List Nat}
open Go.RowKit Go.Maps
theorem Z9:Keyed Tryz.prog 3:=int_keyed Tryz.underlying3
def Xf (v:Value):Option (DataW Value×List MemPlace):=some (.held v,[])
def Hz (w:World)(z:Value)(b n:Nat)(f:Int→Value):Prop:=
 ∃D:DataW Value,w.ownsMap Tryz.prog 3 Xf b n D∧IsMap D∧∀k,(Lit.int .i64 k).wf=true→D.atKey (.int .i64 k) (.held z)=.held (f k)
def aN (f:Int→Value)(k:Int)(v:Value):Int→Value:=fun x=>if x=k then v else f x
theorem R8 (f:Int→Value)(k:Int)(v:Value):aN f k v k=v:=if_pos rfl
theorem Lq (f:Int→Value){k x:Int}(v:Value)(h:x≠k):aN f k v x=f x:=if_neg h
section
variable {w w':World} {z:Value} {b n:Nat} {f:Int→Value}
theorem Hz.made (w:World)(z:Value):Hz (w.alloc (.map #[] 0)) z w.heap.size 0 (fun _=>z):=
 ⟨.map [],World.ownsMap_made w _ _ _,⟨[],rfl⟩,fun _ _=>rfl⟩
theorem Hz.ext (h:Hz w z b n f)(he:Al w w'):Hz w' z b n f:=by
 obtain⟨D,h1,h2,h3⟩:=h;obtain⟨es,clock,hb,r⟩:=h1;exact⟨D,⟨es,clock,(Below.block he b (Array.getElem?_eq_some_iff.1 hb).1).trans hb,r⟩,h2,h3⟩
theorem Hz.grown (h:Hz w z b n f){row:Option Nat}(hg:w.grownBy w' row)(hr:some b≠row):Hz w' z b n f:=by
 obtain⟨D,h1,h2,h3⟩:=h;exact⟨D,h1.kept hg hr,h2,h3⟩
theorem Hz.setCell (h:Hz w z b n f){p:Addr}(hp:p.block≠b)(u:Value):Hz (w.setCell p u) z b n f:=by
 obtain⟨D,h1,h2,h3⟩:=h;obtain⟨es,clock,hb,r⟩:=h1;exact⟨D,⟨es,clock,(Below.heap_setCell w p u b (fun e=>hp e.symm)).trans hb,r⟩,h2,h3⟩
theorem Hz.lt (h:Hz w z b n f):b<w.heap.size:=by obtain⟨D,h1,_⟩:=h;exact h1.lt
theorem Hz.block (h:Hz w z b n f):∃es clock,w.heap[b]? = some (.map es clock):=by
 obtain⟨D,⟨es,clock,hb,_⟩,_⟩:=h;exact⟨es,clock,hb⟩
theorem Hz.ne_own (h:Hz w z b n f){base e y k c:Nat}{A:Option Addr}{xs:List Value}(ho:Ay w base e y A k c xs):some b≠(Value.slice A k c).ownBlock:=by
 obtain⟨es,clock,hb⟩:=h.block;rcases ho.2 with⟨hv,_⟩|⟨g,cap,cur,hv,_,hg,_⟩
 ·rw[hv];simp[Value.ownBlock]
 ·rw[hv]
  intro e;simp[Value.ownBlock]at e;subst e;rw[hb]at hg;cases hg
theorem Hz.get (h:Hz w z b n f){t e:Nat}(ht:Tryz.prog.underlying t=some (.map 3 e))(hz:(zeroValue e).run Tryz.prog w=.ok z w){k:Int}(hk:(Lit.int .i64 k).wf=true):
 (Instr.lookup t (.map (some b)) (.int .i64 k) false).run Tryz.prog w=.ok (f k) w:=by
 obtain⟨D,h1,h2,h3⟩:=h;obtain⟨v,ps,hrun,hv⟩:=h1.lookup Z9 ht hz (show Xf z=some (.held z,[])from rfl) (keyOf_int_mk Tryz.underlying3 hk)
 rw[h3 k hk]at hv;simp only[Xf,Option.some.injEq,Prod.mk.injEq,DataW.held.injEq]at hv;rw[hrun,hv.1]
theorem Hz.put {w0:World}(h:Hz w z b n f){t e:Nat}(ht:Tryz.prog.underlying t=some (.map 3 e))(hn:n<maxLen)(k:Int)(v:Value)
 (hk:(Lit.int .i64 k).wf=true) (he:Al w0 w) (hb:w0.heap.size≤b):
 ∃w',(Instr.mapUpdate t (.map (some b)) (.int .i64 k) v).run Tryz.prog w=.ok () w'∧Hz w' z b (n+1) (aN f k v)∧w.grownBy w' (some b)∧Al w0 w':=by
 obtain⟨D,h1,h2,h3⟩:=h;obtain⟨w',hrun,k1,k2⟩:=h1.update Z9 ht hn (keyOf_int_mk Tryz.underlying3 hk) (show Xf v=some (.held v,[])from rfl)
 refine⟨w',hrun,⟨_,k1,h2.put _ _,fun x hx=>?_⟩,k2,Below.grown he k2 he.size (fun j hj=>by injection hj with hj;omega)⟩
 unfold aN;by_cases e:x=k
 ·subst e
  rw[if_pos rfl,atKey_put_same h2 (show WideAt.IsKeyLit (.int .i64 x)from trivial)]
 ·rw[if_neg e,atKey_put_other (by intro h;injection h with _ h;exact e h),h3 x hx]
end
theorem eD {x:Int}(h1 : -9223372036854775808≤x)(h2:x≤9223372036854775807):(Lit.int .i64 x).wf=true:=by
 simp[Lit.wf,IntKind.min,IntKind.max,IntKind.signed,IntKind.bits];omega
theorem mA {u u' v v':Value}(h1:u=u')(h2:v=v'):Ending.returned (.tuple #[u,v])=.returned (.tuple #[u',v']):=by rw[h1,h2]
theorem vG {a b:Int}(h:a=b):Aq .i64 a=.int .i64 b:=by rw[h]
theorem wJ {a b:Bool}(h:a=b):Value.bool a=.bool b:=by rw[h]
theorem Z5 (c:Int)(w:World):Calls Tryz.prog 158 #[.int .i64 c] w fun e w'=>e=.returned (.tuple #[.int .i64 (Cn c),.bool (Lm c)])∧w=w':=by
 by_cases h1:c=40
 ·subst h1
  exact I12
 by_cases h2:c=91
 ·subst h2
  exact I12
 by_cases h3:c=123
 ·subst h3
  exact I12
 by_cases h4:c=41
 ·subst h4
  exact I12
 by_cases h5:c=93
 ·subst h5
  exact I12
 by_cases h6:c=125
 ·subst h6
  exact I12
 have k1:(c==40)=false:=by simpa using h1
 have k2:(c==91)=false:=by simpa using h2
 have k3:(c==123)=false:=by simpa using h3
 have k4:(c==41)=false:=by simpa using h4
 have k5:(c==93)=false:=by simpa using h5
 have k6:(c==125)=false:=by simpa using h6
 have e1:Hid (Cn c=0):=by show Cn c=0;unfold Cn;simp[h1,h2,h3,h4,h5,h6]
 have e2:Hid (Lm c=false):=by show Lm c=false;unfold Lm;simp[h4,h5,h6]
 clear h1 h2 h3 h4 h5 h6;go_enter Tryz.func158,Tryz.ntmps158
 go_wp2_with fail
 go_ret2
 exact⟨mA (vG e1.out.symm) (wJ e2.out.symm),rfl⟩
theorem Xx (c:Int)(w:World):Calls Tryz.prog 161 #[.int .i64 c] w fun e w'=>e=.returned (.tuple #[.int .i64 (Cn c),.bool (Lm c)])∧w=w':=by
 go_enter Tryz.func161,Tryz.ntmps161
 go_wp2_with fail
 refine(Z5 _ _).mono ?_
 rintro e w1 ⟨rfl,rfl⟩;go_wp2_with fail
 go_ret2
 exact⟨rfl,rfl⟩
def Ea (l:List Nat):List Int:=l.map fun x:Nat=>(x:Int)
theorem L4 (l:List Nat):(Ea l).length=l.length:=by simp[Ea]
theorem P8:∀{s:List Nat} {j:Nat},s.Pairwise (· < ·)→(∀x∈s,x<j)→s.length≤j
 |[],_,_,_=>Nat.zero_le _
 |x::s,j,h,hj=>by
  have h1:=List.pairwise_cons.1 h;have h2:(s.map (· - (x+1))).length≤j-(x+1):=by
   rw[D8];have:=@P8 (s.map (· - (x+1))) (j-(x+1)) (by
    rw[List.pairwise_map];refine List.Pairwise.imp_of_mem ?_ h1.2
    intro a b ha hb hab;have:=h1.1 a ha;omega) (by
    intro y hy;obtain⟨z,hz,rfl⟩:=List.mem_map.1 hy;have:=h1.1 z hz;have:=hj z (by simp[hz])
    omega)
   rwa[D8]at this
  rw[D8]at h2;have:=hj x (by simp)
  simp only[List.length_cons];omega
 termination_by s=>s.length
 decreasing_by simp
def Nl (w:World)(B b cnt:Nat)(st:Int→List Nat):Prop:=
 ∃f,Hz w (.slice none 0 0) b cnt f∧(∀c,∃A k cap,f c=.slice A k cap∧Av w B A k cap (Ea (st c)))∧(∀c c',c≠c'→(f c).ownBlock=none∨(f c).ownBlock≠(f c').ownBlock)
theorem Nl.start (w:World)(B:Nat):Nl (w.alloc (.map #[] 0)) B w.heap.size 0 (fun _=>[]):=
 ⟨_,Hz.made w _,fun c=>⟨none,0,0,rfl,Av.nil _ _⟩,fun c c' _=>.inl rfl⟩
theorem Nl.setCell {B b cnt:Nat}(h:Nl w B b cnt st){p:Addr}(hb:p.block≠b)(hB:p.block<B)(u:Value):Nl (w.setCell p u) B b cnt st:=by
 obtain⟨f,h1,h2,h3⟩:=h;refine⟨f,h1.setCell hb u,fun c=>?_,h3⟩
 obtain⟨A,k,cap,e,ho⟩:=h2 c;exact⟨A,k,cap,e,Ay.setCell ho hB u⟩
theorem Nl.turned {w w2 w3:World}{B b cnt:Nat}{f:Int→Value}{c:Int}{A A':Option Addr}{k cap k' cap':Nat}{v:List Nat}
 (h1:Hz w (.slice none 0 0) b cnt f) (h2:∀c,∃A k cap,f c=.slice A k cap∧Av w B A k cap (Ea (st c))) (h3:∀c c',c≠c'→(f c).ownBlock=none∨(f c).ownBlock≠(f c').ownBlock)
 (hf:f c=.slice A k cap) (hnew:Av w2 B A' k' cap' (Ea v)) (hg:w.grownBy w2 (Aj A k cap).ownBlock)
 (hat:(Aj A' k' cap').ownBlock=(Aj A k cap).ownBlock∨∃g,w.heap.size≤g∧(Aj A' k' cap').ownBlock=some g)
 (hm:Hz w3 (.slice none 0 0) b (cnt+1) (aN f c (.slice A' k' cap'))) (hm2:Hz w2 (.slice none 0 0) b cnt f) (hg3:w2.grownBy w3 (some b)):Nl w3 B b (cnt+1) (Kl st c v):=by
 have keep:∀{A k cap} {l:List Int},Av w2 B A k cap l→Av w3 B A k cap l:=fun {A k cap l} ho=>
  Ay.kept ho hg3 (.inr fun e=>hm2.ne_own ho e.symm)
 refine⟨_,hm,fun x=>?_,fun x y hxy=>?_⟩
 ·by_cases e:x=c
  ·subst e
   exact⟨A',k',cap',R8 _ _ _,by unfold Kl;rw[if_pos rfl];exact keep hnew⟩
  ·obtain⟨Ax,kx,cx,ex,hx⟩:=h2 x
   refine⟨Ax,kx,cx,(Lq _ _ e).trans ex,?_⟩
   unfold Kl;rw[if_neg e];refine keep (Ay.kept hx hg ?_)
   have:=h3 x c e;rw[ex,hf]at this;exact this
 ·have old:∀z,z≠c→(aN f c (.slice A' k' cap') z).ownBlock=none∨(aN f c (.slice A' k' cap') z).ownBlock≠(Aj A' k' cap').ownBlock:=by
   intro z hz;rw[Lq _ _ hz];obtain⟨Az,kz,cz,ez,hoz⟩:=h2 z;rcases hat with ha|⟨g,hg1,ha⟩
   ·rw[ha]
    have:=h3 z c hz
    rwa[hf]at this
   ·right
    rw[ha,ez];intro e;have:=(Ay.blk hoz g e).2;omega
  by_cases e:x=c
  ·subst e
   rw[R8];have hy:=old y (fun e=>hxy e.symm)
   rcases hy with hy|hy
   ·rw[hy]
    cases (Aj A' k' cap').ownBlock with
    |none=>exact .inl rfl
    |some g=>exact .inr (by simp)
   ·exact .inr (fun e=>hy e.symm)
  ·by_cases e2:y=c
   ·subst e2
    rw[R8];exact old x e
   ·rw[Lq _ _ e,Lq _ _ e2]
    exact h3 x y hxy
theorem Tw (w:World):(zeroValue 27).run Tryz.prog w=.ok (.slice none 0 0) w:=by kernel_rfl
theorem mP (hl:Bi w A n c l)(wl:∀x∈l,(Lit.int .i64 x).wf=true)(hn:n≤4096):
 Calls Tryz.prog 148 #[.slice A n c] w fun e w'=>∃g,e=.returned (.tuple #[.slice (some ⟨g,0,none⟩) n n,.int .i64 0])∧An w' g 3 ((D6 l).map (Aq .i64)).toArray∧w.heap.size≤g∧Al w w':=by
 obtain⟨i0,hi,hz0,hz1,hz2⟩:=info_parts Bz;have hmm:=@run_makeMap Tryz.prog;have hlen:=A4 hl.len;have hmk:∀u:World,(Instr.makeSlice 27 (.int .i64 (n:Int)) (.int .i64 (n:Int))).run Tryz.prog u=
  .ok (.slice (some ⟨u.heap.size,0,none⟩) n n) (u.alloc (.cells (madeCells #[.int .i64 0] n) 3)):=fun u=>by
  have h:=run_make (P:=Tryz.prog) u 27 3 i0 (.int .i64 0) Tryz.underlying27 hi hz0 .i64 .i64 (n:Int) (n:Int) (by omega) (Int.le_refl _) (by rw[hz2];omega) (by omega)
  simpa[hz1,Value.cells]using h
 have ws:=(Al.alloc w (.cells (madeCells #[.int .i64 0] n) 3)).hsize;go_enter Tryz.func148,Tryz.ntmps148
 go_wp2_with fail
 go_loopw [20] (fun i wr=>∃(j cnt:Nat),j≤n∧cnt≤j∧i=.int .i64 j∧An wr w.heap.size 3 ((Jo l j).map (Aq .i64)).toArray∧Nl wr (w.heap.size+2) (w.heap.size+1) cnt (Eh l j).1∧Al w wr) (fun i _=>n-(intOf i).toNat)
 case atStart=>
  refine⟨0,0,by omega,by omega,rfl,?_,?_,(Al.alloc _ _).to_alloc _⟩
  ·refine An.ext ?_ (Al.alloc _ _)
   rw[cB,hlen.out,←Rh];exact An.new _ _ _
  ·have:=Nl.start (w.alloc (.cells (madeCells #[.int .i64 0] n) 3)) (w.heap.size+2)
   have e0:(Eh l 0).1=fun _=>[]:=rfl
   rw[e0]
   simpa using this
 case round=>
  obtain⟨j,cnt,hj,hcnt,rfl,hb,hst,he⟩:=hrel;by_cases hlt:j<n
  ·obtain⟨ad,rfl,hc⟩:=hl.at_ hlt
   have cj:=he.cell (hc j hlt);have c1:=U4 hb (k:=j) (by rw[Tv,hlen.out];exact hlt)
   have f1:=hb.frozen j;clear hc;go_wp2_with fail
   refine(Z5 _ _).mono ?_
   rintro e w2 ⟨rfl,hw2⟩;have hb2:An w2 w.heap.size 3 (((Jo l j).set j (-1)).map (Aq .i64)).toArray:=by rw[←hw2];exact Rm hb j (-1)
   have hst2:Nl w2 (w.heap.size+2) (w.heap.size+1) cnt (Eh l j).1:=by
    rw[←hw2];exact hst.setCell (by show w.heap.size≠_;omega) (by show w.heap.size<_;omega) _
   have he2:Al w w2:=by rw[←hw2];exact he.setCell (Ai _) _
   clear hw2 hb hst he cj c1 f1;have hwf:(Lit.int .i64 (gI l j)).wf=true:=wl _ (by
    have:j<l.length:=by rw[hlen.out];exact hlt
    simp[gI,this])
   have hDI:=Xq l j;have hs1:Eh l (j+1)=Lx (gI l j) j (Eh l j):=rfl;by_cases ho:Cn (gI l j)=0
   ·have e1:(Cn (gI l j)==0)=true:=by simpa using ho
    have hs:Eh l (j+1)=((Eh l j).1,Dp (Eh l j).2 j (-1)):=by rw[hs1,Sa ho]
    have hb3:An w2 w.heap.size 3 ((Jo l (j+1)).map (Aq .i64)).toArray:=by rw[Pa (by rw[hs])];exact hb2
    have hst3:Nl w2 (w.heap.size+2) (w.heap.size+1) cnt (Eh l (j+1)).1:=by rw[hs];exact hst2
    clear hs hs1 hDI ho hb2 hst2;exact I65
   have e1:(Cn (gI l j)==0)=false:=by simpa using ho
   cases hclo:Lm (gI l j)with
   |false=>
    have hs:Eh l (j+1)=(Kl (Eh l j).1 (gI l j) ((Eh l j).1 (gI l j)++[j]),Dp (Eh l j).2 j (-1)):=by rw[hs1,Ui ho hclo]
    have hb3:∀w3,An w3 w.heap.size 3 (((Jo l j).set j (-1)).map (Aq .i64)).toArray→An w3 w.heap.size 3 ((Jo l (j+1)).map (Aq .i64)).toArray:=fun w3 h=>by rw[Pa (by rw[hs])];exact h
    have HB3:=A4 hb3;obtain⟨f,m1,m2,m3⟩:=hst2;obtain⟨C,k,cap,ef,hown⟩:=m2 (gI l j);have hget:=m1.get Tryz.underlying242 (Tw w2) hwf;rw[ef]at hget;have hkl:k≤j:=by
     have h1:=hown.ints.len;have h2:=hDI.mem (gI l j);have h3:=hDI.sorted (gI l j);rw[L4]at h1;rw[←h1];exact P8 h3 (fun x hx=>(h2 x hx).1)
    have HS:=A4 hs;clear hs hs1 hDI ho hb3;go_wp2_with (at_builtin;refine Ci rfl (.tmp 43) (.tmp 45) 27 rfl w (w.heap.size+2) 3 i0 (.int .i64 0) 1 8 Tryz.underlying27 hi hz0 hz1 hz2 rfl (by decide) C k cap _ rfl hown _ rfl ?_ rfl ?_ ?_ he2 (by omega) ?_ ?_)
    ·rfl
    ·unfold maxLen;omega
    ·omega
    ·have:=hb2.lt
     have:=m1.lt;omega
    ·intro C' cap' w3 hown' hgr hat he3
     have hown3:Av w3 (w.heap.size+2) C' (k+1) cap' (Ea ((Eh l j).1 (gI l j)++[j])):=by
      simpa[Av,Ea]using hown'
     have m13:=m1.grown hgr (m1.ne_own hown);have hb4:An w3 w.heap.size 3 (((Jo l j).set j (-1)).map (Aq .i64)).toArray:=hb2.grown hgr (fun e=>by
      have:=(Ay.blk hown _ e.symm).1;omega)
     obtain⟨w4,hrun,m14,hg4,he4⟩:=m13.put Tryz.underlying242 (by unfold maxLen;omega) (gI l j) (.slice C' (k+1) cap') hwf he3 (by omega)
     have hst4:=Nl.turned (c:=gI l j) m1 m2 m3 ef hown3 hgr hat m14 m13 hg4;have hb5:=HB3.out _ (hb4.grown hg4 (by simp))
     have hst5:Nl w4 (w.heap.size+2) (w.heap.size+1) (cnt+1) (Eh l (j+1)).1:=by rw[HS.out];exact hst4
     clear hget m1 m2 m3 ef hown hown' hgr hat hown3 m13 m14 hg4 hst4 hb2 hb4 he2 he3;go_wp2_with fail
     go_roundw
     case rel=>exact⟨j+1,cnt+1,by omega,by omega,by go_num,hb5,hst5,he4⟩
     case measure=>simp[intOf];omega
   |true=>
    have hob:=vB (gI l j);have hwo:(Lit.int .i64 (Cn (gI l j))).wf=true:=eD (by omega) (by omega)
    cases hlast:((Eh l j).1 (Cn (gI l j))).getLast? with
    |none=>
     have hnil:=List.getLast?_eq_none_iff.1 hlast;have hs:Eh l (j+1)=((Eh l j).1,Dp (Eh l j).2 j (-1)):=by rw[hs1,Uj ho hclo hnil]
     have hb3:An w2 w.heap.size 3 ((Jo l (j+1)).map (Aq .i64)).toArray:=by rw[Pa (by rw[hs])];exact hb2
     have hst3:Nl w2 (w.heap.size+2) (w.heap.size+1) cnt (Eh l (j+1)).1:=by rw[hs];exact hst2
     obtain⟨f,m1,m2,m3⟩:=hst2;obtain⟨C,k,cap,ef,hown⟩:=m2 (Cn (gI l j));have hget:=m1.get Tryz.underlying242 (Tw w2) hwo;rw[ef]at hget;have hk0:k=0:=by
      have:=hown.ints.len;rw[hnil,L4]at this
      simpa using this.symm
     subst hk0;clear hs hs1 hDI ho hb2 hnil hlast m1 m2 m3 ef hown;exact I65
    |some kk=>
     have hs:Eh l (j+1)=(Kl (Eh l j).1 (Cn (gI l j)) ((Eh l j).1 (Cn (gI l j))).dropLast,Dp (Dp (Eh l j).2 j kk) kk j):=by rw[hs1,Wj ho hclo hlast]
     have hkj:=(hDI.pop ho hclo hlast).2;obtain⟨f,m1,m2,m3⟩:=hst2;obtain⟨C,k,cap,ef,hown⟩:=m2 (Cn (gI l j));have hget:=m1.get Tryz.underlying242 (Tw w2) hwo;rw[ef]at hget;have hklen:((Eh l j).1 (Cn (gI l j))).length=k:=by have:=hown.ints.len;rwa[L4]at this
     have hsplit:=Nu hlast;have hk0:0<k:=by rw[←hklen,←hsplit];simp
     have hkl:k≤4096:=by
      have h3:=P8 (hDI.sorted (Cn (gI l j))) (fun x hx=>(hDI.mem _ x hx).1)
      omega
     obtain⟨ca,rfl,hcell⟩:=hown.ints.at_ hk0;have hkcap:=hown.ints.ncap;have cl:w2.cell? (ca.add (k-1))=some (.int .i64 kk):=by
      rw[hcell (k-1) (by omega)]
      have e1:k-1=((Eh l j).1 (Cn (gI l j))).dropLast.length:=by rw[List.length_dropLast,hklen]
      have e2:gI (Ea ((Eh l j).1 (Cn (gI l j)))) (k-1)=kk:=by
       rw[←hsplit,e1];unfold Ea gI;simp
      rw[e2]
     obtain⟨w3,hrun,m13,hg3,he3⟩:=m1.put Tryz.underlying242 (by unfold maxLen;omega) (Cn (gI l j)) (.slice (some ca) (k-1) cap) hwo he2 (by omega)
     have hown2:Av w2 (w.heap.size+2) (some ca) (k-1) cap (Ea ((Eh l j).1 (Cn (gI l j))).dropLast):=by
      have h1:=Ay.pop hown (k:=k-1) (by omega) hk0
      have e3:Ea ((Eh l j).1 (Cn (gI l j))).dropLast=(Ea ((Eh l j).1 (Cn (gI l j)))).take (k-1):=by
       unfold Ea;rw[←List.map_take,List.dropLast_eq_take,hklen]
      unfold Av;rw[e3,List.map_take];exact h1
     have hst4:=Nl.turned (c:=Cn (gI l j)) m1 m2 m3 ef hown2 (World.grownBy.refl w2 _) (.inl rfl) m13 m1 hg3;have hb3:=hb2.grown hg3 (by simp)
     have x1:=U4 hb3 (k:=j) (by rw[List.length_set,Tv,hlen.out];exact hlt)
     have f1:=hb3.frozen j;have hb4:=Rm hb3 j kk;have x2:=U4 hb3 (k:=kk) (by rw[List.length_set,Tv,hlen.out];omega)
     have f2:=hb3.frozen kk;have hb5:=Rm hb4 kk j;rw[←mF hkj (by rw[hs])]at hb5
     have hst5:Nl ((w3.setCell ⟨w.heap.size,j,none⟩ (.int .i64 kk)).setCell ⟨w.heap.size,kk,none⟩ (.int .i64 j)) (w.heap.size+2) (w.heap.size+1) (cnt+1) (Eh l (j+1)).1:=by
      rw[hs];exact(hst4.setCell (by show w.heap.size≠_;omega) (by show w.heap.size<_;omega) _).setCell (by show w.heap.size≠_;omega) (by show w.heap.size<_;omega) _
     have he5:=(he3.setCell (p:=⟨w.heap.size,j,none⟩) (Ai _) (.int .i64 kk)).setCell (p:=⟨w.heap.size,kk,none⟩) (Ai _) (.int .i64 j);have hne:¬kk=j:=by omega
     have hne2:¬j=kk:=by omega
     clear hs hs1 hDI ho hb2 hlast m1 m2 m3 m13 ef hown hown2 hst4 hb3 hb4 hcell hsplit hklen hg3;go_wp2_with fail
     go_roundw
     case rel=>exact⟨j+1,cnt+1,by omega,by omega,by go_num,hb5,hst5,he5⟩
     case measure=>simp[intOf];omega
  ·obtain rfl:j=n:=by omega
   go_wp2_with fail
   go_ret2
   exact⟨_,rfl,by rw[←mG,hlen.out];exact hb,Ai _,he⟩
theorem U9 (hl:Bi w A n c l)(wl:∀x∈l,(Lit.int .i64 x).wf=true)(hn:n≤4096):
 Calls Tryz.prog 148 #[.slice A n c] w fun e w'=>∃B,e=.returned (.tuple #[.slice B n n,.int .i64 0])∧Bi w' B n n (D6 l)∧Al w w':=
 (mP hl wl hn).mono fun e w' ⟨g,h1,h2,h3,h4⟩=>⟨_,h1,h2.ints (by rw[cE,hl.len]) (by unfold maxLen;omega),h4⟩
theorem Mt {i:Nat}(hi:i<l.length):gI (D6 l) i = -1∨∃k:Nat,gI (D6 l) i=k∧k<l.length∧gI (D6 l) k=i∧k≠i∧Cn (gI l i)=gI l k∧Lm (gI l i)=decide (k<i)∧Cn (gI l i)≠0:=by
 rcases(Xq l l.length).part i hi with h|⟨m,h1,h2,h3⟩
 ·exact .inl (by rw[Rb hi];exact h)
 ·exact .inr ⟨m,by rw[Rb hi];exact h1,h2,by rw[Rb h2];exact h3.1,h3.2⟩
def Va (l:List Int)(k:Nat)(o:Int)(i b:Nat):Prop:=
 i≤k∧i<l.length∧gI l i=o∧gI (D6 l) i=b∧k≤b∧b<l.length∧∀j,i<j→j≤k→j<l.length→gI l j=o→gI (D6 l) j<k
def St (l:List Int)(k:Nat)(o:Int):Prop:=∀j,j≤k→j<l.length→gI l j=o→gI (D6 l) j<k
theorem aE {k:Nat}{o:Int}(hl:Bi w A n c l)(wl:∀x∈l,(Lit.int .i64 x).wf=true)(hn:n≤4096)(hk:k=0∨k<n):
 Calls Tryz.prog 138 #[.slice A n c,.int .i64 k,.bool false,.int .i64 o] w fun e w'=>((∃i b:Nat,Va l k o i b∧e=.returned (.tuple #[.agg #[.int .i64 ((i:Int)+1),.int .i64 b],.int .i64 0]))∨
  (St l k o∧e=.returned (.tuple #[.agg #[.int .i64 0,.int .i64 0],.int .i64 6])))∧Al w w':=by
 have N1:=trivial;exact zU
theorem cD {k:Nat}{g:Int}(hl:Bi w A n c l)(wl:∀x∈l,(Lit.int .i64 x).wf=true)(hn:n≤4096)(hk:k≤n):
 Calls Tryz.prog 155 #[.agg #[.slice A n c,.int .i64 k,.int .i64 g,.bool op]] w fun e w'=>((∃i m:Nat,T9 l k i m∧e=.returned (.tuple #[.agg #[.int .i64 m,.bool true],.int .i64 0]))∨
  (wX l k∧e=.returned (.tuple #[.agg #[.int .i64 0,.bool false],.int .i64 5])))∧Al w w':=by
 have hnc:=hl.ncap;have hcm:=hl.nmax;have hlen:=A4 hl.len;unfold maxLen at hcm;have hx0:Al w ((w.alloc (.cells #[.slice A n c,.int .i64 k,.int .i64 g,.bool op] 219)).alloc (.cells #[.int .i64 0,.bool false] 221)):=(Al.alloc _ _).to_alloc _;have hb1:=(An.new w 219 #[.slice A n c,.int .i64 k,.int .i64 g,.bool op]).ext (Al.alloc _ (.cells #[.int .i64 0,.bool false] 221));have hb2:An ((w.alloc (.cells #[.slice A n c,.int .i64 k,.int .i64 g,.bool op] 219)).alloc (.cells #[.int .i64 0,.bool false] 221)) (w.heap.size+1) 221 #[.int .i64 0,.bool false]:=by
  simpa using An.new (w.alloc (.cells #[.slice A n c,.int .i64 k,.int .i64 g,.bool op] 219)) 221 #[.int .i64 0,.bool false]
 have HP:=A4 (U9 (hl.ext hx0) wl hn);clear wl;go_enter Tryz.func155,Tryz.ntmps155
 go_wp2_with fail
 refine HP.out.mono ?_
 rintro e w1 ⟨B,rfl,hB,he1⟩;have hq1:=hb1.ext he1;have hq2:=hb2.ext he1;have he:=hx0.trans he1;have hl1:=hl.ext he;have c0:=hq1.cell 0;have c1:=hq1.cell 1;simp only[Ag,Ae,Af]at c0 c1;clear HP he1 hl hx0 hb1 hb2 hq1;have HF:Hid (∀q:Nat,q<n→¬gI (D6 l) q<0→∃b:Nat,gI (D6 l) q=b∧b<l.length):=A4 (fun q hq h=>by
  rcases Mt (l:=l) (i:=q) (by rw[hlen.out];exact hq)with h1|⟨b,h1,h2,_⟩
  ·omega
  ·exact⟨b,h1,h2⟩)
 have f0:=hq2.frozen 0;have f1:=hq2.frozen 1;have c4:=hq2.cell 0;have c5:=hq2.cell 1;simp only[Ag,Ae,Af]at c4 c5;have hbF:∀(x:Int) (y:Bool),An ((w1.setCell ⟨w.heap.size+1,0,none⟩ (.int .i64 x)).setCell ⟨w.heap.size+1,1,none⟩ (.bool y)) (w.heap.size+1) 221 #[.int .i64 x,.bool y]:=fun x y=>by
  simpa using(hq2.set_ 0 (.int .i64 x)).set_ 1 (.bool y)
 have HBF:=A4 hbF;have hef:∀(x:Int) (y:Bool),Al w ((w1.setCell ⟨w.heap.size+1,0,none⟩ (.int .i64 x)).setCell ⟨w.heap.size+1,1,none⟩ (.bool y)):=fun x y=>(he.setCell (by simp) _).setCell (by simp) _
 have HEF:=A4 hef;clear hbF hef hq2;go_wp2_with fail
 go_loopw [6] (fun v wr=>∃j:Nat,k≤j∧j≤n∧v=.int .i64 j∧Hid (∀x,k≤x→x<j→Cn (gI l x)=0)∧wr=w1) (fun v _=>n-(intOf v).toNat)
 case atStart=>exact⟨k,Nat.le_refl _,hk,rfl,fun x h1 h2=>absurd h2 (by omega),rfl⟩
 case round=>
  obtain⟨j,hj1,hj2,rfl,hall,rfl⟩:=hrel;by_cases hlt:j<n
  ·obtain⟨a1,rfl,hc1⟩:=hl1.at_ hlt
   obtain⟨a2,rfl,hc2⟩:=hB.at_ hlt;have d1:=hc1 j hlt;have d2:=hc2 j hlt;clear hc1 hc2;go_wp2_with fail
   refine(Xx _ _).mono ?_
   rintro e w2 ⟨rfl,rfl⟩;by_cases hz:Cn (gI l j)=0
   ·have b1:(Cn (gI l j) !=0)=false:=by simpa using hz
    have HZ:=A4 hz;clear hz;go_wp2_with fail
    exact⟨⟨j+1,by omega,by omega,by go_num,fun x h1 h2=>by
     rcases Nat.lt_or_ge x j with h3|h3
     ·exact hall.out x h1 h3
     ·obtain rfl:x=j:=by omega
      exact HZ.out,trivial⟩,by simp[intOf]<;>omega⟩
   ·have b1:(Cn (gI l j) !=0)=true:=by simpa using hz
    have HZ:=A4 hz;clear hz;by_cases hp:gI (D6 l) j<0
    ·have HN:Hid (wX l k):=A4 (fun i h1 h2 h3 h4=>by
      rcases Nat.lt_trichotomy i j with h5|h5|h5
      ·exact absurd (hall.out i h1 h5) h3
      ·subst h5;exact hp
      ·exact absurd (h4 j hj1 h5) HZ.out)
     exact I20
    ·obtain⟨m,hm1,hm2⟩:=HF.out j hlt (by omega)
     have HM:=A4 hm1;rw[hm1]at d2 hp;clear hm1 hp;go_wp2_with fail
     have hbf:=HBF.out m true;have c6:=hbf.cell 0;have c7:=hbf.cell 1;simp only[Ag,Ae,Af]at c6 c7;clear c4 c5 f0 f1 c0 c1 hbf;refine bodyPost_ret (by simp[results,Tryz.results155,go_sem,c6,c7];try rfl) rfl ?_
     exact⟨.inl ⟨j,m,⟨hj1,by rw[hlen.out];exact hlt,HZ.out,hall.out,HM.out,hm2⟩,rfl⟩,HEF.out _ _⟩
  ·have HN:Hid (wX l k):=A4 (fun i h1 h2 h3 h4=>absurd (hall.out i h1 (by rw[hlen.out]at h2;omega)) h3)
   exact I20
def Dk:Option (Nat×Bool)→Ending
 |some (a,i)=>.returned (.tuple #[.agg #[.int .i64 a,.bool i],.int .i64 0])
 |none=>.returned (.tuple #[.agg #[.int .i64 0,.bool false],.int .i64 5])
def Pj:Option Nat→Ending
 |some a=>.returned (.tuple #[.int .i64 a,.int .i64 0])
 |none=>.returned (.tuple #[.int .i64 0,.int .i64 5])
theorem dE {ch:Int}(hl:Bi w A n c l)(hn:n≤4096)(hk:k≤n)(hg1:1≤g)(hg2:g≤4096):
 Calls Tryz.prog 149 #[.agg #[.slice A n c,.int .i64 k,.int .i64 g,.bool op],.int .i64 ch,.int .i64 1] w fun e w'=>e=Pj (Hc l ch (n-(k+1)) (k+1) g)∧Al w w':=by
 have hnc:=hl.ncap;have hcm:=hl.nmax;unfold maxLen at hcm;have hx0:=Al.alloc w (.cells #[.slice A n c,.int .i64 k,.int .i64 g,.bool op] 219);have hb0:=An.new w 219 #[.slice A n c,.int .i64 k,.int .i64 g,.bool op];have hl1:=hl.ext hx0;go_enter Tryz.func149,Tryz.ntmps149
 go_wp2_with fail
 go_loopw [8,9] (fun v i wr=>∃m j:Nat,1≤m∧m≤g∧k+1≤j∧j≤n+1∧v=.int .i64 m∧i=.int .i64 j∧Hid (Hc l ch (n-j) j m=Hc l ch (n-(k+1)) (k+1) g)∧wr=w.alloc (.cells #[.slice A n c,.int .i64 k,.int .i64 g,.bool op] 219)) (fun _ i _=>n+1-(intOf i).toNat)
 case atStart=>exact⟨g,k+1,hg1,Ai _,Ai _,by omega,rfl,by go_num,rfl,rfl⟩
 case round=>
  obtain⟨m,j,h1,h2,h3,h4,rfl,rfl,HF,rfl⟩:=hrel;have c0:=hb0.cell 0;simp only[Ag,Ae,Af]at c0;by_cases hlt:j<n
  ·obtain⟨a1,rfl,hc1⟩:=hl1.at_ hlt
   have d1:=hc1 j hlt;have HS:Hid (Hc l ch (n-j) j m=if gI l j=ch then(if m=1 then some j else Hc l ch (n-(j+1)) (j+1) (m-1))else Hc l ch (n-(j+1)) (j+1) m):=by
    show Hc l ch (n-j) j m=_
    rw[show n-j=(n-(j+1))+1 by omega];rfl
   clear hc1;by_cases hz:gI l j=ch
   ·have b1:(gI l j==ch)=true:=by simpa using hz
    have HZ:=A4 hz;clear hz;by_cases hm:m=1
    ·exact I95
    ·have b2:((m:Int)-1==0)=false:=by simp;omega
     go_wp2_with fail
     exact⟨⟨m-1,j+1,by omega,by omega,by omega,by omega,by congr 1;omega,by go_num,by
      show _=_
      rw[←HF.out,HS.out,if_pos HZ.out,if_neg hm],trivial⟩,by simp[intOf]<;>omega⟩
   ·have b1:(gI l j==ch)=false:=by simpa using hz
    have HZ:=A4 hz;clear hz;go_wp2_with fail
    exact⟨⟨m,j+1,by omega,by omega,by omega,by omega,by go_num,by go_num,by
     show _=_
     rw[←HF.out,HS.out,if_neg HZ.out],trivial⟩,by simp[intOf]<;>omega⟩
  ·have HN:Hid (Hc l ch (n-j) j m=none):=by
    show _=none
    rw[show n-j=0 by omega];rfl
   go_wp2_with fail
   go_ret2
   exact⟨by rw[←HF.out,HN.out];rfl,hx0⟩
theorem iZ {ch:Int}(hl:Bi w A n c l)(hn:n≤4096)(hk:k≤n)(hg1:1≤g)(hg2:g≤4096):
 Calls Tryz.prog 149 #[.agg #[.slice A n c,.int .i64 k,.int .i64 g,.bool op],.int .i64 ch,.int .i64 (-1)] w fun e w'=>e=Pj (Jd l ch k g)∧Al w w':=by
 have hnc:=hl.ncap;have hcm:=hl.nmax;unfold maxLen at hcm;have hx0:=Al.alloc w (.cells #[.slice A n c,.int .i64 k,.int .i64 g,.bool op] 219);have hb0:=An.new w 219 #[.slice A n c,.int .i64 k,.int .i64 g,.bool op];have hl1:=hl.ext hx0;go_enter Tryz.func149,Tryz.ntmps149
 go_wp2_with fail
 go_loopw [8,9] (fun v i wr=>∃m j:Nat,1≤m∧m≤g∧j≤k∧v=.int .i64 m∧i=.int .i64 ((j:Int)-1)∧Hid (Jd l ch j m=Jd l ch k g)∧wr=w.alloc (.cells #[.slice A n c,.int .i64 k,.int .i64 g,.bool op] 219)) (fun _ i _=>(intOf i+1).toNat)
 case atStart=>exact⟨g,k,hg1,Ai _,Ai _,rfl,by go_num,rfl,rfl⟩
 case round=>
  obtain⟨m,j,h1,h2,h3,rfl,rfl,HF,rfl⟩:=hrel;have c0:=hb0.cell 0;simp only[Ag,Ae,Af]at c0;rcases j with _|j
  ·go_wp2_with fail
   go_ret2
   exact⟨by rw[←HF.out];rfl,hx0⟩
  ·rw[show((j+1:Nat):Int)-1=(j:Int)by omega]
   have hlt:j<n:=by omega
   obtain⟨a1,rfl,hc1⟩:=hl1.at_ hlt;have d1:=hc1 j hlt;have HS:Hid (Jd l ch (j+1) m=if gI l j=ch then(if m=1 then some j else Jd l ch j (m-1))else Jd l ch j m):=rfl;clear hc1;by_cases hz:gI l j=ch
   ·have b1:(gI l j==ch)=true:=by simpa using hz
    have HZ:=A4 hz;clear hz;by_cases hm:m=1
    ·exact I95
    ·have b2:((m:Int)-1==0)=false:=by simp;omega
     go_wp2_with fail
     exact⟨⟨m-1,j,by omega,by omega,by omega,by congr 1;omega,by go_num,by
      show _=_
      rw[←HF.out,HS.out,if_pos HZ.out,if_neg hm],trivial⟩,by simp[intOf]<;>omega⟩
   ·have b1:(gI l j==ch)=false:=by simpa using hz
    have HZ:=A4 hz;clear hz;go_wp2_with fail
    exact⟨⟨m,j,by omega,by omega,by omega,by go_num,by go_num,by
     show _=_
     rw[←HF.out,HS.out,if_neg HZ.out],trivial⟩,by simp[intOf]<;>omega⟩
theorem D0 {w W:World}{q T:Nat}{x0 y0:Value}(hb:An W q T #[x0,y0])(he:Al w W)(hq:w.heap.size≤q):
 (∀x y:Value,((W.setCell ⟨q,0,none⟩ x).setCell ⟨q,1,none⟩ y).cell? ⟨q,0,none⟩=some x)∧(∀x y:Value,((W.setCell ⟨q,0,none⟩ x).setCell ⟨q,1,none⟩ y).cell? ⟨q,1,none⟩=some y)∧
 (∀x y:Value,Al w ((W.setCell ⟨q,0,none⟩ x).setCell ⟨q,1,none⟩ y))∧(∀x:Value,Al w (W.setCell ⟨q,0,none⟩ x))∧(∀y:Value,Al w (W.setCell ⟨q,1,none⟩ y)):=by
 refine⟨fun x y=>?_,fun x y=>?_,fun x y=>(he.setCell hq _).setCell hq _,fun x=>he.setCell hq _,fun x=>he.setCell hq _⟩
 ·have:=((hb.set_ 0 x).set_ 1 y).cell 0
  simpa using this
 ·have:=((hb.set_ 0 x).set_ 1 y).cell 1
  simpa using this
theorem Vo (w:World)(v0 v1 v2 v3:Value):An ((w.alloc (.cells #[v0,v1,v2,v3] 219)).alloc (.cells #[.int .i64 0,.bool false] 221)) (w.heap.size+1) 221 #[.int .i64 0,.bool false]:=by
 simpa using An.new (w.alloc (.cells #[v0,v1,v2,v3] 219)) 221 #[.int .i64 0,.bool false]
theorem nV (w:World)(v0 v1 v2 v3:Value):An ((w.alloc (.cells #[v0,v1,v2,v3] 219)).alloc (.cells #[.int .i64 0,.bool false] 221)) w.heap.size 219 #[v0,v1,v2,v3]:=
 (An.new w _ _).ext (Al.alloc _ _)
theorem Nc {x:Int}{a:Nat}{i:Bool}(h:x=a):Ending.returned (.tuple #[.agg #[.int .i64 x,.bool i],.int .i64 0])=Dk (some (a,i)):=by rw[h];rfl
theorem Rc (a:Nat)(i:Bool):Dk (some (a,i))=.returned (.tuple #[.agg #[.int .i64 a,.bool i],.int .i64 0]):=rfl
theorem Lh:Dk none=.returned (.tuple #[.agg #[.int .i64 0,.bool false],.int .i64 5]):=rfl
theorem Xv (hnc:n≤c)(hcm:c≤maxLen)(hn:n≤4096)(hk:k≤n)(hg1:1≤g)(hg2:g≤4096):
 Calls Tryz.prog 150 #[.agg #[.slice A n c,.int .i64 k,.int .i64 g,.bool op]] w fun e w'=>e=Dk (if(if op=true then n else n-1)≤k then none else some (min (if op=true then n else n-1) (k+g),false))∧Al w w':=by
 unfold maxLen at hcm;have hx0:Al w ((w.alloc (.cells #[.slice A n c,.int .i64 k,.int .i64 g,.bool op] 219)).alloc (.cells #[.int .i64 0,.bool false] 221)):=(Al.alloc _ _).to_alloc _;have hb2:=Vo w (.slice A n c) (.int .i64 k) (.int .i64 g) (.bool op);have HB:=A4 hb2;have c0:=hb2.cell 0;have c1:=hb2.cell 1;have f0:=hb2.frozen 0;have f1:=hb2.frozen 1;simp only[Ag,Ae,Af]at c0 c1;clear hb2;cases op
 ·have N0:=trivial;exact Qp
 ·have N1:=trivial;exact Qp
theorem Tj {f:FuncId}{s:Nat→Nat}(hl:Bi w A n c l)(hn:n≤4096)(hk:k≤n)(hg2:g≤4096)
 (hent:Hid (∀(args:Array Value) (w1:World),Sem.run Tryz.prog (callFunc f args) w1=.ok (.enter f args) w1)) (hs:Hid (∀j,j≤n→s j≤n)) (H:Hid (∀(w1:World) (j:Nat),j≤n→Bi w1 A n c l→Calls Tryz.prog f #[.slice A n c,.int .i64 j,.bool big] w1 fun e w'=>e=.returned (.tuple #[.int .i64 (s j),.int .i64 0])∧Al w1 w')):
 Calls Tryz.prog 152 #[.agg #[.slice A n c,.int .i64 k,.int .i64 g,.bool op],.func (.func f) #[] #[],.bool big] w fun e w'=>e=.returned (.int .i64 (Nw s g k))∧Al w w':=by
 have hnc:=hl.ncap;have hcm:=hl.nmax;unfold maxLen at hcm;have hx0:=Al.alloc w (.cells #[.slice A n c,.int .i64 k,.int .i64 g,.bool op] 219);have hb0:=An.new w 219 #[.slice A n c,.int .i64 k,.int .i64 g,.bool op];go_enter Tryz.func152,Tryz.ntmps152
 go_wp2_with fail
 go_loopw [7,12] (fun v i wr=>∃j m:Nat,j≤g∧m≤n∧i=.int .i64 j∧v=.int .i64 m∧Hid (m=Nw s j k)∧Al (w.alloc (.cells #[.slice A n c,.int .i64 k,.int .i64 g,.bool op] 219)) wr) (fun _ i _=>g-(intOf i).toNat)
 case atStart=>exact⟨0,k,by omega,hk,rfl,rfl,rfl,Al.refl _⟩
 case round=>
  obtain⟨j,m,h1,h2,rfl,rfl,HM,he⟩:=hrel;have c0:=(hb0.ext he).cell 0;simp only[Ag,Ae,Af]at c0;by_cases hlt:j<g
  ·have hl1:=hl.ext (hx0.trans he)
   go_wp2_with fail
   rw[hent.out];refine(H.out _ m h2 hl1).mono ?_
   rintro e w1 ⟨rfl,he1⟩;have HS:Hid (s m≤n∧s m=Nw s (j+1) k):=A4 ⟨hs.out m h2,by rw[HM.out];rfl⟩
   clear hb0 c0;generalize s m=m' at*;have h3:=HS.out.1;go_wp2_with fail
   exact⟨⟨j+1,m',by omega,h3,by go_num,rfl,A4 HS.out.2,he.trans he1⟩,by simp[intOf]<;>omega⟩
  ·go_wp2_with fail
   go_ret
   refine⟨Hj ?_,hx0.trans he⟩
   have:j=g:=by omega
   rw[HM.out,this]
theorem oC (hl:Bi w A n c l)(hn:n≤4096):
 Calls Tryz.prog 151 #[.agg #[.slice A n c,.int .i64 k,.int .i64 g,.bool op]] w fun e w'=>e=.returned (.int .i64 (F9 l))∧Al w w':=by
 have hnc:=hl.ncap;have hcm:=hl.nmax;have hlen:=A4 hl.len;unfold maxLen at hcm;have hx0:=Al.alloc w (.cells #[.slice A n c,.int .i64 k,.int .i64 g,.bool op] 219);have hb0:=An.new w 219 #[.slice A n c,.int .i64 k,.int .i64 g,.bool op];have hl1:=hl.ext hx0;have c0:=hb0.cell 0;simp only[Ag,Ae,Af]at c0;go_enter Tryz.func151,Tryz.ntmps151
 go_wp2_with fail
 go_loopw [8] (fun i wr=>∃j:Nat,j≤n∧i=.int .i64 j∧Hid (∀x:Nat,0≤x→x<j→Au l true x=0)∧wr=w.alloc (.cells #[.slice A n c,.int .i64 k,.int .i64 g,.bool op] 219)) (fun i _=>n-(intOf i).toNat)
 case atStart=>exact⟨0,by omega,rfl,fun x h1 h2=>absurd h2 (by omega),rfl⟩
 case round=>
  obtain⟨j,h1,rfl,HA,rfl⟩:=hrel;by_cases hlt:j<n
  ·obtain⟨a1,rfl,hc1⟩:=hl1.at_ hlt
   have d1:=hc1 j hlt;have HK:Hid (Au l true j=Bf (gI l j) true):=A4 (Ft (by rw[hlen.out];omega))
   clear hc1;go_wp2_with fail
   refine(Tf _ _ _).mono ?_
   rintro e w1 ⟨rfl,rfl⟩;by_cases hz:Bf (gI l j) true=0
   ·have b1:(Bf (gI l j) true !=0)=false:=by simpa using hz
    have HZ:=A4 hz;clear hz;go_wp2_with fail
    exact⟨⟨j+1,by omega,by go_num,fun x h1 h2=>by
     rcases Nat.lt_or_ge x j with h3|h3
     ·exact HA.out x h1 h3
     ·obtain rfl:x=j:=by omega
      rw[HK.out,HZ.out],trivial⟩,by simp[intOf]<;>omega⟩
   ·have b1:(Bf (gI l j) true !=0)=true:=by simpa using hz
    have HZ:=A4 hz;clear hz;go_wp2_with fail
    go_ret
    refine⟨Hj ?_,hx0⟩
    have:Eg l true 0 0=j:=Pz (by omega) (by omega) HA.out (by rw[HK.out];exact HZ.out)
    unfold F9;rw[this,if_pos (by rw[hlen.out];exact hlt)]
  ·have HF:Hid (F9 l=n-1):=by
    show F9 l=n-1
    have:Eg l true 0 0=n:=Pz (by omega) (by omega) (fun x h1 h2=>HA.out x h1 (by omega)) (by rw[Kh (by rw[hlen.out];omega)];omega)
    unfold F9;rw[this,if_neg (by rw[hlen.out];omega),hlen.out]
   go_wp2_with fail
   all_goals
    go_ret
    refine⟨Hj ?_,hx0⟩
    rw[HF.out];omega
theorem Yq {k g X:Nat}(hnc:n≤c)(hcm:c≤maxLen)(hn:n≤4096)(hk:k≤n)(h0:0<n)(hX:X≤n)
 (H:Hid (∀w1:World,Al w w1→Calls Tryz.prog 152 #[.agg #[.slice A n c,.int .i64 k,.int .i64 g,.bool op],.func (.func 159) #[] #[],.bool big] w1 fun e w'=>e=.returned (.int .i64 X)∧Al w1 w')):
 Calls Tryz.prog 153 #[.agg #[.slice A n c,.int .i64 k,.int .i64 g,.bool op],.bool big] w fun e w'=>e=Dk (if op=true then some (X,false)else if min X (n-1)=k then none else some (min X (n-1),false))∧Al w w':=by
 have N31:=trivial;exact Nj
theorem eY {k g X:Nat}(hnc:n≤c)(hcm:c≤maxLen)(hn:n≤4096)(hk:k≤n)(h0:0<n)(hX:X≤n)
 (H:Hid (∀w1:World,Al w w1→Calls Tryz.prog 152 #[.agg #[.slice A n c,.int .i64 k,.int .i64 g,.bool op],.func (.func 160) #[] #[],.bool big] w1 fun e w'=>e=.returned (.int .i64 X)∧Al w1 w')):
 Calls Tryz.prog 154 #[.agg #[.slice A n c,.int .i64 k,.int .i64 g,.bool op],.bool big] w fun e w'=>e=Dk (if op=false∧X=k then none else some (X,true))∧Al w w':=by
 have N32:=trivial;exact Nj
theorem iC (a:Nat):Pj (some a)=.returned (.tuple #[.int .i64 a,.int .i64 0]):=rfl
theorem iD:Pj none=.returned (.tuple #[.int .i64 0,.int .i64 5]):=rfl
theorem xE {l:List Int}(hnc:n≤c)(hcm:c≤maxLen)(hn:n≤4096)(hk:k≤n)(hg1:1≤g)(hg2:g≤4096)(h0:k=0):
 Calls Tryz.prog 143 #[.agg #[.slice A n c,.int .i64 k,.int .i64 g,.bool op],.int .i64 104] w fun e w'=>e=Dk (none)∧Al w w':=by
 have N0:=trivial;exact Nj
theorem xD {l:List Int}(hnc:n≤c)(hcm:c≤maxLen)(hn:n≤4096)(hk:k≤n)(hg1:1≤g)(hg2:g≤4096)(h0:0<k):
 Calls Tryz.prog 143 #[.agg #[.slice A n c,.int .i64 k,.int .i64 g,.bool op],.int .i64 104] w fun e w'=>e=Dk (some (k-g,false))∧Al w w':=by
 have N1:=trivial;exact Nj
theorem yM {l:List Int}(hnc:n≤c)(hcm:c≤maxLen)(hn:n≤4096)(hk:k≤n)(hg1:1≤g)(hg2:g≤4096):
 Calls Tryz.prog 143 #[.agg #[.slice A n c,.int .i64 k,.int .i64 g,.bool op],.int .i64 48] w fun e w'=>e=Dk (some (0,false))∧Al w w':=by
 have N2:=trivial;exact Nj
theorem uW {l:List Int}(hnc:n≤c)(hcm:c≤maxLen)(hn:n≤4096)(hk:k≤n)(hg1:1≤g)(hg2:g≤4096)(h0:n=0):
 Calls Tryz.prog 143 #[.agg #[.slice A n c,.int .i64 k,.int .i64 g,.bool op],.int .i64 36] w fun e w'=>e=Dk (none)∧Al w w':=by
 have N3:=trivial;exact Nj
theorem xL {l:List Int}(hnc:n≤c)(hcm:c≤maxLen)(hn:n≤4096)(hk:k≤n)(hg1:1≤g)(hg2:g≤4096)(h0:0<n):
 Calls Tryz.prog 143 #[.agg #[.slice A n c,.int .i64 k,.int .i64 g,.bool op],.int .i64 36] w fun e w'=>e=Dk (some (n-1,true))∧Al w w':=by
 have N4:=trivial;exact Nj
theorem qP {l:List Int}(hnc:n≤c)(hcm:c≤maxLen)(hn:n≤4096)(hk:k≤n)(hg1:1≤g)(hg2:g≤4096)(h0:n=0):
 Calls Tryz.prog 143 #[.agg #[.slice A n c,.int .i64 k,.int .i64 g,.bool op],.int .i64 124] w fun e w'=>e=Dk (none)∧Al w w':=by
 have N5:=trivial;exact Nj
theorem uX {l:List Int}(hnc:n≤c)(hcm:c≤maxLen)(hn:n≤4096)(hk:k≤n)(hg1:1≤g)(hg2:g≤4096)(h0:0<n):
 Calls Tryz.prog 143 #[.agg #[.slice A n c,.int .i64 k,.int .i64 g,.bool op],.int .i64 124] w fun e w'=>e=Dk (some (min g n-1,false))∧Al w w':=by
 have N6:=trivial;exact Nj
theorem qQ {l:List Int}(hnc:n≤c)(hcm:c≤maxLen)(hn:n≤4096)(hk:k≤n)(hg1:1≤g)(hg2:g≤4096)(h0:n=0):
 Calls Tryz.prog 143 #[.agg #[.slice A n c,.int .i64 k,.int .i64 g,.bool op],.int .i64 119] w fun e w'=>e=Dk (none)∧Al w w':=by
 have N7:=trivial;exact Nj
theorem uS {l:List Int}(hnc:n≤c)(hcm:c≤maxLen)(hn:n≤4096)(hk:k≤n)(hg1:1≤g)(hg2:g≤4096)(h0:n=0):
 Calls Tryz.prog 143 #[.agg #[.slice A n c,.int .i64 k,.int .i64 g,.bool op],.int .i64 87] w fun e w'=>e=Dk (none)∧Al w w':=by
 have N8:=trivial;exact Nj
theorem qR {l:List Int}(hnc:n≤c)(hcm:c≤maxLen)(hn:n≤4096)(hk:k≤n)(hg1:1≤g)(hg2:g≤4096)(h0:n=0):
 Calls Tryz.prog 143 #[.agg #[.slice A n c,.int .i64 k,.int .i64 g,.bool op],.int .i64 101] w fun e w'=>e=Dk (none)∧Al w w':=by
 have N9:=trivial;exact Nj
theorem uT {l:List Int}(hnc:n≤c)(hcm:c≤maxLen)(hn:n≤4096)(hk:k≤n)(hg1:1≤g)(hg2:g≤4096)(h0:n=0):
 Calls Tryz.prog 143 #[.agg #[.slice A n c,.int .i64 k,.int .i64 g,.bool op],.int .i64 69] w fun e w'=>e=Dk (none)∧Al w w':=by
 have N10:=trivial;exact Nj
theorem uV {l:List Int}(hnc:n≤c)(hcm:c≤maxLen)(hn:n≤4096)(hk:k≤n)(hg1:1≤g)(hg2:g≤4096)(h0:n=0):
 Calls Tryz.prog 143 #[.agg #[.slice A n c,.int .i64 k,.int .i64 g,.bool op],.int .i64 37] w fun e w'=>e=Dk (none)∧Al w w':=by
 have N11:=trivial;exact Nj
theorem xG {l:List Int}(hnc:n≤c)(hcm:c≤maxLen)(hn:n≤4096)(hk:k≤n)(hg1:1≤g)(hg2:g≤4096)(H:Hid (∀w1:World,Al w w1→Calls Tryz.prog 151 #[.agg #[.slice A n c,.int .i64 k,.int .i64 g,.bool op]] w1 fun e w'=>e=.returned (.int .i64 X)∧Al w1 w')):
 Calls Tryz.prog 143 #[.agg #[.slice A n c,.int .i64 k,.int .i64 g,.bool op],.int .i64 94] w fun e w'=>e=Dk (some (X,false))∧Al w w':=by
 have N12:=trivial;exact Nj
theorem uR {l:List Int}(hnc:n≤c)(hcm:c≤maxLen)(hn:n≤4096)(hk:k≤n)(hg1:1≤g)(hg2:g≤4096)(h0:k=0):
 Calls Tryz.prog 143 #[.agg #[.slice A n c,.int .i64 k,.int .i64 g,.bool op],.int .i64 98] w fun e w'=>e=Dk (none)∧Al w w':=by
 have N13:=trivial;exact Nj
theorem xF {l:List Int}(hnc:n≤c)(hcm:c≤maxLen)(hn:n≤4096)(hk:k≤n)(hg1:1≤g)(hg2:g≤4096)(h0:0<k)(H:Hid (∀w1:World,Al w w1→Calls Tryz.prog 152 #[.agg #[.slice A n c,.int .i64 k,.int .i64 g,.bool op],.func (.func 86) #[] #[],.bool false] w1 fun e w'=>e=.returned (.int .i64 X)∧Al w1 w')):
 Calls Tryz.prog 143 #[.agg #[.slice A n c,.int .i64 k,.int .i64 g,.bool op],.int .i64 98] w fun e w'=>e=Dk (some (X,false))∧Al w w':=by
 have N14:=trivial;exact Nj
theorem uU {l:List Int}(hnc:n≤c)(hcm:c≤maxLen)(hn:n≤4096)(hk:k≤n)(hg1:1≤g)(hg2:g≤4096)(h0:k=0):
 Calls Tryz.prog 143 #[.agg #[.slice A n c,.int .i64 k,.int .i64 g,.bool op],.int .i64 66] w fun e w'=>e=Dk (none)∧Al w w':=by
 have N15:=trivial;exact Nj
theorem xJ {l:List Int}(hnc:n≤c)(hcm:c≤maxLen)(hn:n≤4096)(hk:k≤n)(hg1:1≤g)(hg2:g≤4096)(h0:0<k)(H:Hid (∀w1:World,Al w w1→Calls Tryz.prog 152 #[.agg #[.slice A n c,.int .i64 k,.int .i64 g,.bool op],.func (.func 86) #[] #[],.bool true] w1 fun e w'=>e=.returned (.int .i64 X)∧Al w1 w')):
 Calls Tryz.prog 143 #[.agg #[.slice A n c,.int .i64 k,.int .i64 g,.bool op],.int .i64 66] w fun e w'=>e=Dk (some (X,false))∧Al w w':=by
 have N16:=trivial;exact Nj
theorem uZ {l:List Int}(hnc:n≤c)(hcm:c≤maxLen)(hn:n≤4096)(hk:k≤n)(hg1:1≤g)(hg2:g≤4096)(H:Hid (∀w1:World,Al w w1→Calls Tryz.prog 150 #[.agg #[.slice A n c,.int .i64 k,.int .i64 g,.bool op]] w1 fun e w'=>e=Dk o∧Al w1 w')):
 Calls Tryz.prog 143 #[.agg #[.slice A n c,.int .i64 k,.int .i64 g,.bool op],.int .i64 108] w fun e w'=>e=Dk (o)∧Al w w':=by
 have N17:=trivial;exact Nj
theorem uY {l:List Int}(hnc:n≤c)(hcm:c≤maxLen)(hn:n≤4096)(hk:k≤n)(hg1:1≤g)(hg2:g≤4096)(h0:0<n)(H:Hid (∀w1:World,Al w w1→Calls Tryz.prog 153 #[.agg #[.slice A n c,.int .i64 k,.int .i64 g,.bool op],.bool false] w1 fun e w'=>e=Dk o∧Al w1 w')):
 Calls Tryz.prog 143 #[.agg #[.slice A n c,.int .i64 k,.int .i64 g,.bool op],.int .i64 119] w fun e w'=>e=Dk (o)∧Al w w':=by
 have N18:=trivial;exact Nj
theorem xH {l:List Int}(hnc:n≤c)(hcm:c≤maxLen)(hn:n≤4096)(hk:k≤n)(hg1:1≤g)(hg2:g≤4096)(h0:0<n)(H:Hid (∀w1:World,Al w w1→Calls Tryz.prog 153 #[.agg #[.slice A n c,.int .i64 k,.int .i64 g,.bool op],.bool true] w1 fun e w'=>e=Dk o∧Al w1 w')):
 Calls Tryz.prog 143 #[.agg #[.slice A n c,.int .i64 k,.int .i64 g,.bool op],.int .i64 87] w fun e w'=>e=Dk (o)∧Al w w':=by
 have N19:=trivial;exact Nj
theorem vA {l:List Int}(hnc:n≤c)(hcm:c≤maxLen)(hn:n≤4096)(hk:k≤n)(hg1:1≤g)(hg2:g≤4096)(h0:0<n)(H:Hid (∀w1:World,Al w w1→Calls Tryz.prog 154 #[.agg #[.slice A n c,.int .i64 k,.int .i64 g,.bool op],.bool false] w1 fun e w'=>e=Dk o∧Al w1 w')):
 Calls Tryz.prog 143 #[.agg #[.slice A n c,.int .i64 k,.int .i64 g,.bool op],.int .i64 101] w fun e w'=>e=Dk (o)∧Al w w':=by
 have N20:=trivial;exact Nj
theorem xI {l:List Int}(hnc:n≤c)(hcm:c≤maxLen)(hn:n≤4096)(hk:k≤n)(hg1:1≤g)(hg2:g≤4096)(h0:0<n)(H:Hid (∀w1:World,Al w w1→Calls Tryz.prog 154 #[.agg #[.slice A n c,.int .i64 k,.int .i64 g,.bool op],.bool true] w1 fun e w'=>e=Dk o∧Al w1 w')):
 Calls Tryz.prog 143 #[.agg #[.slice A n c,.int .i64 k,.int .i64 g,.bool op],.int .i64 69] w fun e w'=>e=Dk (o)∧Al w w':=by
 have N21:=trivial;exact Nj
theorem xK {l:List Int}(hnc:n≤c)(hcm:c≤maxLen)(hn:n≤4096)(hk:k≤n)(hg1:1≤g)(hg2:g≤4096){R:Option (Nat×Bool)→Prop}(h0:0<n)(H:Hid (∀w1:World,Al w w1→Calls Tryz.prog 155 #[.agg #[.slice A n c,.int .i64 k,.int .i64 g,.bool op]] w1 fun e w'=>(∃o,R o∧e=Dk o)∧Al w1 w')):
 Calls Tryz.prog 143 #[.agg #[.slice A n c,.int .i64 k,.int .i64 g,.bool op],.int .i64 37] w fun e w'=>(∃o,R o∧e=Dk o)∧Al w w':=by
 have N22:=trivial;exact Nj
theorem sF {l:List Int}(hnc:n≤c)(hcm:c≤maxLen)(hn:n≤4096)(hk:k≤n)(hg1:1≤g)(hg2:g≤4096)(H:Hid (∀w1:World,Al w w1→Calls Tryz.prog 149 #[.agg #[.slice A n c,.int .i64 k,.int .i64 g,.bool op],.int .i64 arg,.int .i64 1] w1 fun e w'=>e=Pj none∧Al w1 w')):
 Calls Tryz.prog 142 #[.agg #[.slice A n c,.int .i64 k,.int .i64 g,.bool op],.int .i64 102,.int .i64 arg] w fun e w'=>e=Dk (none)∧Al w w':=by
 have N23:=trivial;exact Nj
theorem sE {l:List Int}(hnc:n≤c)(hcm:c≤maxLen)(hn:n≤4096)(hk:k≤n)(hg1:1≤g)(hg2:g≤4096)(hj:1≤j∧j≤4096)(H:Hid (∀w1:World,Al w w1→Calls Tryz.prog 149 #[.agg #[.slice A n c,.int .i64 k,.int .i64 g,.bool op],.int .i64 arg,.int .i64 1] w1 fun e w'=>e=Pj (some j)∧Al w1 w')):
 Calls Tryz.prog 142 #[.agg #[.slice A n c,.int .i64 k,.int .i64 g,.bool op],.int .i64 102,.int .i64 arg] w fun e w'=>e=Dk (some (j,true))∧Al w w':=by
 have N24:=trivial;exact Nj
theorem vZ {l:List Int}(hnc:n≤c)(hcm:c≤maxLen)(hn:n≤4096)(hk:k≤n)(hg1:1≤g)(hg2:g≤4096)(H:Hid (∀w1:World,Al w w1→Calls Tryz.prog 149 #[.agg #[.slice A n c,.int .i64 k,.int .i64 g,.bool op],.int .i64 arg,.int .i64 (-1)] w1 fun e w'=>e=Pj none∧Al w1 w')):
 Calls Tryz.prog 142 #[.agg #[.slice A n c,.int .i64 k,.int .i64 g,.bool op],.int .i64 70,.int .i64 arg] w fun e w'=>e=Dk (none)∧Al w w':=by
 have N25:=trivial;exact Nj
theorem vY {l:List Int}(hnc:n≤c)(hcm:c≤maxLen)(hn:n≤4096)(hk:k≤n)(hg1:1≤g)(hg2:g≤4096)(hj:j≤4096)(H:Hid (∀w1:World,Al w w1→Calls Tryz.prog 149 #[.agg #[.slice A n c,.int .i64 k,.int .i64 g,.bool op],.int .i64 arg,.int .i64 (-1)] w1 fun e w'=>e=Pj (some j)∧Al w1 w')):
 Calls Tryz.prog 142 #[.agg #[.slice A n c,.int .i64 k,.int .i64 g,.bool op],.int .i64 70,.int .i64 arg] w fun e w'=>e=Dk (some (j,false))∧Al w w':=by
 have N26:=trivial;exact Nj
theorem sD {l:List Int}(hnc:n≤c)(hcm:c≤maxLen)(hn:n≤4096)(hk:k≤n)(hg1:1≤g)(hg2:g≤4096)(H:Hid (∀w1:World,Al w w1→Calls Tryz.prog 149 #[.agg #[.slice A n c,.int .i64 k,.int .i64 g,.bool op],.int .i64 arg,.int .i64 1] w1 fun e w'=>e=Pj none∧Al w1 w')):
 Calls Tryz.prog 142 #[.agg #[.slice A n c,.int .i64 k,.int .i64 g,.bool op],.int .i64 116,.int .i64 arg] w fun e w'=>e=Dk (none)∧Al w w':=by
 have N27:=trivial;exact Nj
theorem sC {l:List Int}(hnc:n≤c)(hcm:c≤maxLen)(hn:n≤4096)(hk:k≤n)(hg1:1≤g)(hg2:g≤4096)(hj:1≤j∧j≤4096)(H:Hid (∀w1:World,Al w w1→Calls Tryz.prog 149 #[.agg #[.slice A n c,.int .i64 k,.int .i64 g,.bool op],.int .i64 arg,.int .i64 1] w1 fun e w'=>e=Pj (some j)∧Al w1 w')):
 Calls Tryz.prog 142 #[.agg #[.slice A n c,.int .i64 k,.int .i64 g,.bool op],.int .i64 116,.int .i64 arg] w fun e w'=>e=Dk (some (j-1,true))∧Al w w':=by
 have N28:=trivial;exact Nj
theorem vX {l:List Int}(hnc:n≤c)(hcm:c≤maxLen)(hn:n≤4096)(hk:k≤n)(hg1:1≤g)(hg2:g≤4096)(H:Hid (∀w1:World,Al w w1→Calls Tryz.prog 149 #[.agg #[.slice A n c,.int .i64 k,.int .i64 g,.bool op],.int .i64 arg,.int .i64 (-1)] w1 fun e w'=>e=Pj none∧Al w1 w')):
 Calls Tryz.prog 142 #[.agg #[.slice A n c,.int .i64 k,.int .i64 g,.bool op],.int .i64 84,.int .i64 arg] w fun e w'=>e=Dk (none)∧Al w w':=by
 have N29:=trivial;exact Nj
theorem vW {l:List Int}(hnc:n≤c)(hcm:c≤maxLen)(hn:n≤4096)(hk:k≤n)(hg1:1≤g)(hg2:g≤4096)(hj:j≤4096)(H:Hid (∀w1:World,Al w w1→Calls Tryz.prog 149 #[.agg #[.slice A n c,.int .i64 k,.int .i64 g,.bool op],.int .i64 arg,.int .i64 (-1)] w1 fun e w'=>e=Pj (some j)∧Al w1 w')):
 Calls Tryz.prog 142 #[.agg #[.slice A n c,.int .i64 k,.int .i64 g,.bool op],.int .i64 84,.int .i64 arg] w fun e w'=>e=Dk (some (j+1,false))∧Al w w':=by
 have N30:=trivial;exact Nj
end
