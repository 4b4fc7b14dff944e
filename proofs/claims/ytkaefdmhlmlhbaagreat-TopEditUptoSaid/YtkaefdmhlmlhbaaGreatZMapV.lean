/-
  Part ZMapV.
-/
import Derived.Test.YtkaefdmhlmlhbaaGreatZMotM
import Derived.Maps.OwnOps
import Derived.Maps.Views
import Derived.IntWalk
set_option maxRecDepth 100000
set_option maxHeartbeats 16000000
set_option linter.unusedVariables false
set_option linter.unusedSimpArgs false
namespace Go.Proofs.YtkaefdmhlmlhbaaGreat
open Go.RowKit
open _root_.List renaming getElem?_cons_succ→Ag,getElem?_cons_zero→Af,getElem?_toArray→Ah,length_map→Cs
open _root_.Nat renaming le_refl→Aj
open Value renaming int→At,slice→Ak
section
variable {A:Option Addr}{w:World}{n c k g j X:Nat}{op big:Bool}{o:Option (Nat×Bool)}{l:List Int}{arg:Int}{st:Int→List Nat}
open Go.RowKit Go.Maps
theorem bA:Keyed Tryz.prog 3:=int_keyed Tryz.underlying3
def Yt (v:Value):Option (DataW Value×List MemPlace):=some (.held v,[])
def Jo (w:World)(z:Value)(b n:Nat)(f:Int→Value):Prop:=
 ∃D:DataW Value,w.ownsMap Tryz.prog 3 Yt b n D∧IsMap D∧∀k,(Lit.int .i64 k).wf=true→D.atKey (.int .i64 k) (.held z)=.held (f k)
def cT (f:Int→Value)(k:Int)(v:Value):Int→Value:=fun x=>if x=k then v else f x
theorem Sk (f:Int→Value)(k:Int)(v:Value):cT f k v k=v:=if_pos rfl
theorem Mt (f:Int→Value){k x:Int}(v:Value)(h:x≠k):cT f k v x=f x:=if_neg h
section
variable {w w':World} {z:Value} {b n:Nat} {f:Int→Value}
theorem Jo.made (w:World)(z:Value):Jo (w.alloc (.map #[] 0)) z w.heap.size 0 (fun _=>z):=
 ⟨.map [],World.ownsMap_made w _ _ _,⟨[],rfl⟩,fun _ _=>rfl⟩
theorem Jo.ext (h:Jo w z b n f)(he:An w w'):Jo w' z b n f:=by
 obtain⟨D,h1,h2,h3⟩:=h;obtain⟨es,clock,hb,r⟩:=h1;exact⟨D,⟨es,clock,(Below.block he b (Array.getElem?_eq_some_iff.1 hb).1).trans hb,r⟩,h2,h3⟩
theorem Jo.grown (h:Jo w z b n f){row:Option Nat}(hg:w.grownBy w' row)(hr:some b≠row):Jo w' z b n f:=by
 obtain⟨D,h1,h2,h3⟩:=h;exact⟨D,h1.kept hg hr,h2,h3⟩
theorem Jo.setCell (h:Jo w z b n f){p:Addr}(hp:p.block≠b)(u:Value):Jo (w.setCell p u) z b n f:=by
 obtain⟨D,h1,h2,h3⟩:=h;obtain⟨es,clock,hb,r⟩:=h1;exact⟨D,⟨es,clock,(Below.heap_setCell w p u b (fun e=>hp e.symm)).trans hb,r⟩,h2,h3⟩
theorem Jo.lt (h:Jo w z b n f):b<w.heap.size:=by obtain⟨D,h1,_⟩:=h;exact h1.lt
theorem Jo.block (h:Jo w z b n f):∃es clock,w.heap[b]? = some (.map es clock):=by
 obtain⟨D,⟨es,clock,hb,_⟩,_⟩:=h;exact⟨es,clock,hb⟩
theorem Jo.ne_own (h:Jo w z b n f){base e y k c:Nat}{A:Option Addr}{xs:List Value}(ho:Bd w base e y A k c xs):some b≠(Value.slice A k c).ownBlock:=by
 obtain⟨es,clock,hb⟩:=h.block;rcases ho.2 with⟨hv,_⟩|⟨g,cap,cur,hv,_,hg,_⟩
 ·rw[hv];simp[Value.ownBlock]
 ·rw[hv]
  intro e;simp[Value.ownBlock]at e;subst e;rw[hb]at hg;cases hg
theorem Jo.get (h:Jo w z b n f){t e:Nat}(ht:Tryz.prog.underlying t=some (.map 3 e))(hz:(zeroValue e).run Tryz.prog w=.ok z w){k:Int}(hk:(Lit.int .i64 k).wf=true):
 (Instr.lookup t (.map (some b)) (.int .i64 k) false).run Tryz.prog w=.ok (f k) w:=by
 obtain⟨D,h1,h2,h3⟩:=h;obtain⟨v,ps,hrun,hv⟩:=h1.lookup bA ht hz (show Yt z=some (.held z,[])from rfl) (keyOf_int_mk Tryz.underlying3 hk)
 rw[h3 k hk]at hv;simp only[Yt,Option.some.injEq,Prod.mk.injEq,DataW.held.injEq]at hv;rw[hrun,hv.1]
theorem Jo.put {w0:World}(h:Jo w z b n f){t e:Nat}(ht:Tryz.prog.underlying t=some (.map 3 e))(hn:n<maxLen)(k:Int)(v:Value)
 (hk:(Lit.int .i64 k).wf=true) (he:An w0 w) (hb:w0.heap.size≤b):
 ∃w',(Instr.mapUpdate t (.map (some b)) (.int .i64 k) v).run Tryz.prog w=.ok () w'∧Jo w' z b (n+1) (cT f k v)∧w.grownBy w' (some b)∧An w0 w':=by
 obtain⟨D,h1,h2,h3⟩:=h;obtain⟨w',hrun,k1,k2⟩:=h1.update bA ht hn (keyOf_int_mk Tryz.underlying3 hk) (show Yt v=some (.held v,[])from rfl)
 refine⟨w',hrun,⟨_,k1,h2.put _ _,fun x hx=>?_⟩,k2,Below.grown he k2 he.size (fun j hj=>by injection hj with hj;omega)⟩
 unfold cT;by_cases e:x=k
 ·subst e
  rw[if_pos rfl,atKey_put_same h2 (show WideAt.IsKeyLit (.int .i64 x)from trivial)]
 ·rw[if_neg e,atKey_put_other (by intro h;injection h with _ h;exact e h),h3 x hx]
end
theorem gO {x:Int}(h1 : -9223372036854775808≤x)(h2:x≤9223372036854775807):(Lit.int .i64 x).wf=true:=by
 simp[Lit.wf,IntKind.min,IntKind.max,IntKind.signed,IntKind.bits];omega
theorem pG {u u' v v':Value}(h1:u=u')(h2:v=v'):Ending.returned (.tuple #[u,v])=.returned (.tuple #[u',v']):=by rw[h1,h2]
theorem zT {a b:Int}(h:a=b):At .i64 a=.int .i64 b:=by rw[h]
theorem J0x {a b:Bool}(h:a=b):Value.bool a=.bool b:=by rw[h]
theorem aV (c:Int)(w:World):Calls Tryz.prog 176 #[.int .i64 c] w fun e w'=>e=.returned (.tuple #[.int .i64 (Cw c),.bool (Mo c)])∧w=w':=by
 by_cases h1:c=40
 ·subst h1
  exact I13
 by_cases h2:c=91
 ·subst h2
  exact I13
 by_cases h3:c=123
 ·subst h3
  exact I13
 by_cases h4:c=41
 ·subst h4
  exact I13
 by_cases h5:c=93
 ·subst h5
  exact I13
 by_cases h6:c=125
 ·subst h6
  exact I13
 have k1:(c==40)=false:=by simpa using h1
 have k2:(c==91)=false:=by simpa using h2
 have k3:(c==123)=false:=by simpa using h3
 have k4:(c==41)=false:=by simpa using h4
 have k5:(c==93)=false:=by simpa using h5
 have k6:(c==125)=false:=by simpa using h6
 have e1:Hid (Cw c=0):=by show Cw c=0;unfold Cw;simp[h1,h2,h3,h4,h5,h6]
 have e2:Hid (Mo c=false):=by show Mo c=false;unfold Mo;simp[h4,h5,h6]
 clear h1 h2 h3 h4 h5 h6;go_enter Tryz.func176,Tryz.ntmps176
 go_wp2_with fail
 go_ret2
 exact⟨pG (zT e1.out.symm) (J0x e2.out.symm),rfl⟩
theorem Zc (c:Int)(w:World):Calls Tryz.prog 182 #[.int .i64 c] w fun e w'=>e=.returned (.tuple #[.int .i64 (Cw c),.bool (Mo c)])∧w=w':=by
 go_enter Tryz.func182,Tryz.ntmps182
 go_wp2_with fail
 refine(aV _ _).mono ?_
 rintro e w1 ⟨rfl,rfl⟩;go_wp2_with fail
 go_ret2
 exact⟨rfl,rfl⟩
def Em (l:List Nat):List Int:=l.map fun x:Nat=>(x:Int)
theorem M4 (l:List Nat):(Em l).length=l.length:=by simp[Em]
theorem Qg:∀{s:List Nat} {j:Nat},s.Pairwise (· < ·)→(∀x∈s,x<j)→s.length≤j
 |[],_,_,_=>Nat.zero_le _
 |x::s,j,h,hj=>by
  have h1:=List.pairwise_cons.1 h;have h2:(s.map (· - (x+1))).length≤j-(x+1):=by
   rw[Cs];have:=@Qg (s.map (· - (x+1))) (j-(x+1)) (by
    rw[List.pairwise_map];refine List.Pairwise.imp_of_mem ?_ h1.2
    intro a b ha hb hab;have:=h1.1 a ha;omega) (by
    intro y hy;obtain⟨z,hz,rfl⟩:=List.mem_map.1 hy;have:=h1.1 z hz;have:=hj z (by simp[hz])
    omega)
   rwa[Cs]at this
  rw[Cs]at h2;have:=hj x (by simp)
  simp only[List.length_cons];omega
 termination_by s=>s.length
 decreasing_by simp
def Py (w:World)(B b cnt:Nat)(st:Int→List Nat):Prop:=
 ∃f,Jo w (.slice none 0 0) b cnt f∧(∀c,∃A k cap,f c=.slice A k cap∧Av w B A k cap (Em (st c)))∧(∀c c',c≠c'→(f c).ownBlock=none∨(f c).ownBlock≠(f c').ownBlock)
theorem Py.start (w:World)(B:Nat):Py (w.alloc (.map #[] 0)) B w.heap.size 0 (fun _=>[]):=
 ⟨_,Jo.made w _,fun c=>⟨none,0,0,rfl,Av.nil _ _⟩,fun c c' _=>.inl rfl⟩
theorem Py.setCell {B b cnt:Nat}(h:Py w B b cnt st){p:Addr}(hb:p.block≠b)(hB:p.block<B)(u:Value):Py (w.setCell p u) B b cnt st:=by
 obtain⟨f,h1,h2,h3⟩:=h;refine⟨f,h1.setCell hb u,fun c=>?_,h3⟩
 obtain⟨A,k,cap,e,ho⟩:=h2 c;exact⟨A,k,cap,e,Bd.setCell ho hB u⟩
theorem Py.turned {w w2 w3:World}{B b cnt:Nat}{f:Int→Value}{c:Int}{A A':Option Addr}{k cap k' cap':Nat}{v:List Nat}
 (h1:Jo w (.slice none 0 0) b cnt f) (h2:∀c,∃A k cap,f c=.slice A k cap∧Av w B A k cap (Em (st c))) (h3:∀c c',c≠c'→(f c).ownBlock=none∨(f c).ownBlock≠(f c').ownBlock)
 (hf:f c=.slice A k cap) (hnew:Av w2 B A' k' cap' (Em v)) (hg:w.grownBy w2 (Ak A k cap).ownBlock)
 (hat:(Ak A' k' cap').ownBlock=(Ak A k cap).ownBlock∨∃g,w.heap.size≤g∧(Ak A' k' cap').ownBlock=some g)
 (hm:Jo w3 (.slice none 0 0) b (cnt+1) (cT f c (.slice A' k' cap'))) (hm2:Jo w2 (.slice none 0 0) b cnt f) (hg3:w2.grownBy w3 (some b)):Py w3 B b (cnt+1) (Le st c v):=by
 have keep:∀{A k cap} {l:List Int},Av w2 B A k cap l→Av w3 B A k cap l:=fun {A k cap l} ho=>
  Bd.kept ho hg3 (.inr fun e=>hm2.ne_own ho e.symm)
 refine⟨_,hm,fun x=>?_,fun x y hxy=>?_⟩
 ·by_cases e:x=c
  ·subst e
   exact⟨A',k',cap',Sk _ _ _,by unfold Le;rw[if_pos rfl];exact keep hnew⟩
  ·obtain⟨Ax,kx,cx,ex,hx⟩:=h2 x
   refine⟨Ax,kx,cx,(Mt _ _ e).trans ex,?_⟩
   unfold Le;rw[if_neg e];refine keep (Bd.kept hx hg ?_)
   have:=h3 x c e;rw[ex,hf]at this;exact this
 ·have old:∀z,z≠c→(cT f c (.slice A' k' cap') z).ownBlock=none∨(cT f c (.slice A' k' cap') z).ownBlock≠(Ak A' k' cap').ownBlock:=by
   intro z hz;rw[Mt _ _ hz];obtain⟨Az,kz,cz,ez,hoz⟩:=h2 z;rcases hat with ha|⟨g,hg1,ha⟩
   ·rw[ha]
    have:=h3 z c hz
    rwa[hf]at this
   ·right
    rw[ha,ez];intro e;have:=(Bd.blk hoz g e).2;omega
  by_cases e:x=c
  ·subst e
   rw[Sk];have hy:=old y (fun e=>hxy e.symm)
   rcases hy with hy|hy
   ·rw[hy]
    cases (Ak A' k' cap').ownBlock with
    |none=>exact .inl rfl
    |some g=>exact .inr (by simp)
   ·exact .inr (fun e=>hy e.symm)
  ·by_cases e2:y=c
   ·subst e2
    rw[Sk];exact old x e
   ·rw[Mt _ _ e,Mt _ _ e2]
    exact h3 x y hxy
theorem V6 (w:World):(zeroValue 25).run Tryz.prog w=.ok (.slice none 0 0) w:=by kernel_rfl
theorem pW (hl:Bl w A n c l)(wl:∀x∈l,(Lit.int .i64 x).wf=true)(hn:n≤4096):
 Calls Tryz.prog 152 #[.slice A n c] w fun e w'=>∃g,e=.returned (.tuple #[.slice (some ⟨g,0,none⟩) n n,.int .i64 0])∧Aq w' g 3 ((Dd l).map (At .i64)).toArray∧w.heap.size≤g∧An w w':=by
 obtain⟨i0,hi,hz0,hz1,hz2⟩:=info_parts Cb;have hmm:=@run_makeMap Tryz.prog;have hlen:=A6 hl.len;have hmk:∀u:World,(Instr.makeSlice 25 (.int .i64 (n:Int)) (.int .i64 (n:Int))).run Tryz.prog u=
  .ok (.slice (some ⟨u.heap.size,0,none⟩) n n) (u.alloc (.cells (madeCells #[.int .i64 0] n) 3)):=fun u=>by
  have h:=run_make (P:=Tryz.prog) u 25 3 i0 (.int .i64 0) Tryz.underlying25 hi hz0 .i64 .i64 (n:Int) (n:Int) (by omega) (Int.le_refl _) (by rw[hz2];omega) (by omega)
  simpa[hz1,Value.cells]using h
 have ws:=(An.alloc w (.cells (madeCells #[.int .i64 0] n) 3)).hsize;go_enter Tryz.func152,Tryz.ntmps152
 go_wp2_with fail
 go_loopw [20] (fun i wr=>∃(j cnt:Nat),j≤n∧cnt≤j∧i=.int .i64 j∧Aq wr w.heap.size 3 ((Kl l j).map (At .i64)).toArray∧Py wr (w.heap.size+2) (w.heap.size+1) cnt (Ev l j).1∧An w wr) (fun i _=>n-(intOf i).toNat)
 case atStart=>
  refine⟨0,0,by omega,by omega,rfl,?_,?_,(An.alloc _ _).to_alloc _⟩
  ·refine Aq.ext ?_ (An.alloc _ _)
   rw[eG,hlen.out,←Ss];exact Aq.new _ _ _
  ·have:=Py.start (w.alloc (.cells (madeCells #[.int .i64 0] n) 3)) (w.heap.size+2)
   have e0:(Ev l 0).1=fun _=>[]:=rfl
   rw[e0]
   simpa using this
 case round=>
  obtain⟨j,cnt,hj,hcnt,rfl,hb,hst,he⟩:=hrel;by_cases hlt:j<n
  ·obtain⟨ad,rfl,hc⟩:=hl.at_ hlt
   have cj:=he.cell (hc j hlt);have c1:=Vf hb (k:=j) (by rw[V5,hlen.out];exact hlt)
   have f1:=hb.frozen j;clear hc;go_wp2_with fail
   refine(aV _ _).mono ?_
   rintro e w2 ⟨rfl,hw2⟩;have hb2:Aq w2 w.heap.size 3 (((Kl l j).set j (-1)).map (At .i64)).toArray:=by rw[←hw2];exact Sy hb j (-1)
   have hst2:Py w2 (w.heap.size+2) (w.heap.size+1) cnt (Ev l j).1:=by
    rw[←hw2];exact hst.setCell (by show w.heap.size≠_;omega) (by show w.heap.size<_;omega) _
   have he2:An w w2:=by rw[←hw2];exact he.setCell (Aj _) _
   clear hw2 hb hst he cj c1 f1;have hwf:(Lit.int .i64 (gI l j)).wf=true:=wl _ (by
    have:j<l.length:=by rw[hlen.out];exact hlt
    simp[gI,this])
   have hDI:=Z4 l j;have hs1:Ev l (j+1)=Nc (gI l j) j (Ev l j):=rfl;by_cases ho:Cw (gI l j)=0
   ·have e1:(Cw (gI l j)==0)=true:=by simpa using ho
    have hs:Ev l (j+1)=((Ev l j).1,Dy (Ev l j).2 j (-1)):=by rw[hs1,Tp ho]
    have hb3:Aq w2 w.heap.size 3 ((Kl l (j+1)).map (At .i64)).toArray:=by rw[Qi (by rw[hs])];exact hb2
    have hst3:Py w2 (w.heap.size+2) (w.heap.size+1) cnt (Ev l (j+1)).1:=by rw[hs];exact hst2
    clear hs hs1 hDI ho hb2 hst2;exact I66
   have e1:(Cw (gI l j)==0)=false:=by simpa using ho
   cases hclo:Mo (gI l j)with
   |false=>
    have hs:Ev l (j+1)=(Le (Ev l j).1 (gI l j) ((Ev l j).1 (gI l j)++[j]),Dy (Ev l j).2 j (-1)):=by rw[hs1,Vy ho hclo]
    have hb3:∀w3,Aq w3 w.heap.size 3 (((Kl l j).set j (-1)).map (At .i64)).toArray→Aq w3 w.heap.size 3 ((Kl l (j+1)).map (At .i64)).toArray:=fun w3 h=>by rw[Qi (by rw[hs])];exact h
    have HB3:=A6 hb3;obtain⟨f,m1,m2,m3⟩:=hst2;obtain⟨C,k,cap,ef,hown⟩:=m2 (gI l j);have hget:=m1.get Tryz.underlying269 (V6 w2) hwf;rw[ef]at hget;have hkl:k≤j:=by
     have h1:=hown.ints.len;have h2:=hDI.mem (gI l j);have h3:=hDI.sorted (gI l j);rw[M4]at h1;rw[←h1];exact Qg h3 (fun x hx=>(h2 x hx).1)
    have HS:=A6 hs;clear hs hs1 hDI ho hb3;go_wp2_with (at_builtin;refine C6 rfl (.tmp 43) (.tmp 45) 25 rfl w (w.heap.size+2) 3 i0 (.int .i64 0) 1 8 Tryz.underlying25 hi hz0 hz1 hz2 rfl (by decide) C k cap _ rfl hown _ rfl ?_ rfl ?_ ?_ he2 (by omega) ?_ ?_)
    ·rfl
    ·unfold maxLen;omega
    ·omega
    ·have:=hb2.lt
     have:=m1.lt;omega
    ·intro C' cap' w3 hown' hgr hat he3
     have hown3:Av w3 (w.heap.size+2) C' (k+1) cap' (Em ((Ev l j).1 (gI l j)++[j])):=by
      simpa[Av,Em]using hown'
     have m13:=m1.grown hgr (m1.ne_own hown);have hb4:Aq w3 w.heap.size 3 (((Kl l j).set j (-1)).map (At .i64)).toArray:=hb2.grown hgr (fun e=>by
      have:=(Bd.blk hown _ e.symm).1;omega)
     obtain⟨w4,hrun,m14,hg4,he4⟩:=m13.put Tryz.underlying269 (by unfold maxLen;omega) (gI l j) (.slice C' (k+1) cap') hwf he3 (by omega)
     have hst4:=Py.turned (c:=gI l j) m1 m2 m3 ef hown3 hgr hat m14 m13 hg4;have hb5:=HB3.out _ (hb4.grown hg4 (by simp))
     have hst5:Py w4 (w.heap.size+2) (w.heap.size+1) (cnt+1) (Ev l (j+1)).1:=by rw[HS.out];exact hst4
     clear hget m1 m2 m3 ef hown hown' hgr hat hown3 m13 m14 hg4 hst4 hb2 hb4 he2 he3;go_wp2_with fail
     go_roundw
     case rel=>exact⟨j+1,cnt+1,by omega,by omega,by go_num,hb5,hst5,he4⟩
     case measure=>simp[intOf];omega
   |true=>
    have hob:=zO (gI l j);have hwo:(Lit.int .i64 (Cw (gI l j))).wf=true:=gO (by omega) (by omega)
    cases hlast:((Ev l j).1 (Cw (gI l j))).getLast? with
    |none=>
     have hnil:=List.getLast?_eq_none_iff.1 hlast;have hs:Ev l (j+1)=((Ev l j).1,Dy (Ev l j).2 j (-1)):=by rw[hs1,Vz ho hclo hnil]
     have hb3:Aq w2 w.heap.size 3 ((Kl l (j+1)).map (At .i64)).toArray:=by rw[Qi (by rw[hs])];exact hb2
     have hst3:Py w2 (w.heap.size+2) (w.heap.size+1) cnt (Ev l (j+1)).1:=by rw[hs];exact hst2
     obtain⟨f,m1,m2,m3⟩:=hst2;obtain⟨C,k,cap,ef,hown⟩:=m2 (Cw (gI l j));have hget:=m1.get Tryz.underlying269 (V6 w2) hwo;rw[ef]at hget;have hk0:k=0:=by
      have:=hown.ints.len;rw[hnil,M4]at this
      simpa using this.symm
     subst hk0;clear hs hs1 hDI ho hb2 hnil hlast m1 m2 m3 ef hown;exact I66
    |some kk=>
     have hs:Ev l (j+1)=(Le (Ev l j).1 (Cw (gI l j)) ((Ev l j).1 (Cw (gI l j))).dropLast,Dy (Dy (Ev l j).2 j kk) kk j):=by rw[hs1,Y7 ho hclo hlast]
     have hkj:=(hDI.pop ho hclo hlast).2;obtain⟨f,m1,m2,m3⟩:=hst2;obtain⟨C,k,cap,ef,hown⟩:=m2 (Cw (gI l j));have hget:=m1.get Tryz.underlying269 (V6 w2) hwo;rw[ef]at hget;have hklen:((Ev l j).1 (Cw (gI l j))).length=k:=by have:=hown.ints.len;rwa[M4]at this
     have hsplit:=Q6 hlast;have hk0:0<k:=by rw[←hklen,←hsplit];simp
     have hkl:k≤4096:=by
      have h3:=Qg (hDI.sorted (Cw (gI l j))) (fun x hx=>(hDI.mem _ x hx).1)
      omega
     obtain⟨ca,rfl,hcell⟩:=hown.ints.at_ hk0;have hkcap:=hown.ints.ncap;have cl:w2.cell? (ca.add (k-1))=some (.int .i64 kk):=by
      rw[hcell (k-1) (by omega)]
      have e1:k-1=((Ev l j).1 (Cw (gI l j))).dropLast.length:=by rw[List.length_dropLast,hklen]
      have e2:gI (Em ((Ev l j).1 (Cw (gI l j)))) (k-1)=kk:=by
       rw[←hsplit,e1];unfold Em gI;simp
      rw[e2]
     obtain⟨w3,hrun,m13,hg3,he3⟩:=m1.put Tryz.underlying269 (by unfold maxLen;omega) (Cw (gI l j)) (.slice (some ca) (k-1) cap) hwo he2 (by omega)
     have hown2:Av w2 (w.heap.size+2) (some ca) (k-1) cap (Em ((Ev l j).1 (Cw (gI l j))).dropLast):=by
      have h1:=Bd.pop hown (k:=k-1) (by omega) hk0
      have e3:Em ((Ev l j).1 (Cw (gI l j))).dropLast=(Em ((Ev l j).1 (Cw (gI l j)))).take (k-1):=by
       unfold Em;rw[←List.map_take,List.dropLast_eq_take,hklen]
      unfold Av;rw[e3,List.map_take];exact h1
     have hst4:=Py.turned (c:=Cw (gI l j)) m1 m2 m3 ef hown2 (World.grownBy.refl w2 _) (.inl rfl) m13 m1 hg3;have hb3:=hb2.grown hg3 (by simp)
     have x1:=Vf hb3 (k:=j) (by rw[List.length_set,V5,hlen.out];exact hlt)
     have f1:=hb3.frozen j;have hb4:=Sy hb3 j kk;have x2:=Vf hb3 (k:=kk) (by rw[List.length_set,V5,hlen.out];omega)
     have f2:=hb3.frozen kk;have hb5:=Sy hb4 kk j;rw[←pM hkj (by rw[hs])]at hb5
     have hst5:Py ((w3.setCell ⟨w.heap.size,j,none⟩ (.int .i64 kk)).setCell ⟨w.heap.size,kk,none⟩ (.int .i64 j)) (w.heap.size+2) (w.heap.size+1) (cnt+1) (Ev l (j+1)).1:=by
      rw[hs];exact(hst4.setCell (by show w.heap.size≠_;omega) (by show w.heap.size<_;omega) _).setCell (by show w.heap.size≠_;omega) (by show w.heap.size<_;omega) _
     have he5:=(he3.setCell (p:=⟨w.heap.size,j,none⟩) (Aj _) (.int .i64 kk)).setCell (p:=⟨w.heap.size,kk,none⟩) (Aj _) (.int .i64 j);have hne:¬kk=j:=by omega
     have hne2:¬j=kk:=by omega
     clear hs hs1 hDI ho hb2 hlast m1 m2 m3 m13 ef hown hown2 hst4 hb3 hb4 hcell hsplit hklen hg3;go_wp2_with fail
     go_roundw
     case rel=>exact⟨j+1,cnt+1,by omega,by omega,by go_num,hb5,hst5,he5⟩
     case measure=>simp[intOf];omega
  ·obtain rfl:j=n:=by omega
   go_wp2_with fail
   go_ret2
   exact⟨_,rfl,by rw[←pN,hlen.out];exact hb,Aj _,he⟩
theorem Vn (hl:Bl w A n c l)(wl:∀x∈l,(Lit.int .i64 x).wf=true)(hn:n≤4096):
 Calls Tryz.prog 152 #[.slice A n c] w fun e w'=>∃B,e=.returned (.tuple #[.slice B n n,.int .i64 0])∧Bl w' B n n (Dd l)∧An w w':=
 (pW hl wl hn).mono fun e w' ⟨g,h1,h2,h3,h4⟩=>⟨_,h1,h2.ints (by rw[eJ,hl.len]) (by unfold maxLen;omega),h4⟩
theorem Pd {i:Nat}(hi:i<l.length):gI (Dd l) i = -1∨∃k:Nat,gI (Dd l) i=k∧k<l.length∧gI (Dd l) k=i∧k≠i∧Cw (gI l i)=gI l k∧Mo (gI l i)=decide (k<i)∧Cw (gI l i)≠0:=by
 rcases(Z4 l l.length).part i hi with h|⟨m,h1,h2,h3⟩
 ·exact .inl (by rw[So hi];exact h)
 ·exact .inr ⟨m,by rw[So hi];exact h1,h2,by rw[So h2];exact h3.1,h3.2⟩
def Wz (l:List Int)(k:Nat)(o:Int)(i b:Nat):Prop:=
 i≤k∧i<l.length∧gI l i=o∧gI (Dd l) i=b∧k≤b∧b<l.length∧∀j,i<j→j≤k→j<l.length→gI l j=o→gI (Dd l) j<k
def U7 (l:List Int)(k:Nat)(o:Int):Prop:=∀j,j≤k→j<l.length→gI l j=o→gI (Dd l) j<k
theorem cI {k:Nat}{o:Int}(hl:Bl w A n c l)(wl:∀x∈l,(Lit.int .i64 x).wf=true)(hn:n≤4096)(hk:k=0∨k<n):
 Calls Tryz.prog 118 #[.slice A n c,.int .i64 k,.bool false,.int .i64 o] w fun e w'=>((∃i b:Nat,Wz l k o i b∧e=.returned (.tuple #[.agg #[.int .i64 ((i:Int)+1),.int .i64 b],.int .i64 0]))∨
  (U7 l k o∧e=.returned (.tuple #[.agg #[.int .i64 0,.int .i64 0],.int .i64 6])))∧An w w':=by
 have N1:=trivial;exact K14
theorem eI {k:Nat}{g:Int}(hl:Bl w A n c l)(wl:∀x∈l,(Lit.int .i64 x).wf=true)(hn:n≤4096)(hk:k≤n):
 Calls Tryz.prog 173 #[.agg #[.slice A n c,.int .i64 k,.int .i64 g,.bool op]] w fun e w'=>((∃i m:Nat,Ui l k i m∧e=.returned (.tuple #[.agg #[.int .i64 m,.bool true],.int .i64 0]))∨
  (noP l k∧e=.returned (.tuple #[.agg #[.int .i64 0,.bool false],.int .i64 5])))∧An w w':=by
 have hnc:=hl.ncap;have hcm:=hl.nmax;have hlen:=A6 hl.len;unfold maxLen at hcm;have hx0:An w ((w.alloc (.cells #[.slice A n c,.int .i64 k,.int .i64 g,.bool op] 222)).alloc (.cells #[.int .i64 0,.bool false] 224)):=(An.alloc _ _).to_alloc _;have hb1:=(Aq.new w 222 #[.slice A n c,.int .i64 k,.int .i64 g,.bool op]).ext (An.alloc _ (.cells #[.int .i64 0,.bool false] 224));have hb2:Aq ((w.alloc (.cells #[.slice A n c,.int .i64 k,.int .i64 g,.bool op] 222)).alloc (.cells #[.int .i64 0,.bool false] 224)) (w.heap.size+1) 224 #[.int .i64 0,.bool false]:=by
  simpa using Aq.new (w.alloc (.cells #[.slice A n c,.int .i64 k,.int .i64 g,.bool op] 222)) 224 #[.int .i64 0,.bool false]
 have HP:=A6 (Vn (hl.ext hx0) wl hn);clear wl;go_enter Tryz.func173,Tryz.ntmps173
 go_wp2_with fail
 refine HP.out.mono ?_
 rintro e w1 ⟨B,rfl,hB,he1⟩;have hq1:=hb1.ext he1;have hq2:=hb2.ext he1;have he:=hx0.trans he1;have hl1:=hl.ext he;have c0:=hq1.cell 0;have c1:=hq1.cell 1;simp only[Ah,Af,Ag]at c0 c1;clear HP he1 hl hx0 hb1 hb2 hq1;have HF:Hid (∀q:Nat,q<n→¬gI (Dd l) q<0→∃b:Nat,gI (Dd l) q=b∧b<l.length):=A6 (fun q hq h=>by
  rcases Pd (l:=l) (i:=q) (by rw[hlen.out];exact hq)with h1|⟨b,h1,h2,_⟩
  ·omega
  ·exact⟨b,h1,h2⟩)
 have f0:=hq2.frozen 0;have f1:=hq2.frozen 1;have c4:=hq2.cell 0;have c5:=hq2.cell 1;simp only[Ah,Af,Ag]at c4 c5;have hbF:∀(x:Int) (y:Bool),Aq ((w1.setCell ⟨w.heap.size+1,0,none⟩ (.int .i64 x)).setCell ⟨w.heap.size+1,1,none⟩ (.bool y)) (w.heap.size+1) 224 #[.int .i64 x,.bool y]:=fun x y=>by
  simpa using(hq2.set_ 0 (.int .i64 x)).set_ 1 (.bool y)
 have HBF:=A6 hbF;have hef:∀(x:Int) (y:Bool),An w ((w1.setCell ⟨w.heap.size+1,0,none⟩ (.int .i64 x)).setCell ⟨w.heap.size+1,1,none⟩ (.bool y)):=fun x y=>(he.setCell (by simp) _).setCell (by simp) _
 have HEF:=A6 hef;clear hbF hef hq2;go_wp2_with fail
 go_loopw [6] (fun v wr=>∃j:Nat,k≤j∧j≤n∧v=.int .i64 j∧Hid (∀x,k≤x→x<j→Cw (gI l x)=0)∧wr=w1) (fun v _=>n-(intOf v).toNat)
 case atStart=>exact⟨k,Nat.le_refl _,hk,rfl,fun x h1 h2=>absurd h2 (by omega),rfl⟩
 case round=>
  obtain⟨j,hj1,hj2,rfl,hall,rfl⟩:=hrel;by_cases hlt:j<n
  ·obtain⟨a1,rfl,hc1⟩:=hl1.at_ hlt
   obtain⟨a2,rfl,hc2⟩:=hB.at_ hlt;have d1:=hc1 j hlt;have d2:=hc2 j hlt;clear hc1 hc2;go_wp2_with fail
   refine(Zc _ _).mono ?_
   rintro e w2 ⟨rfl,rfl⟩;by_cases hz:Cw (gI l j)=0
   ·have b1:(Cw (gI l j) !=0)=false:=by simpa using hz
    have HZ:=A6 hz;clear hz;go_wp2_with fail
    exact⟨⟨j+1,by omega,by omega,by go_num,fun x h1 h2=>by
     rcases Nat.lt_or_ge x j with h3|h3
     ·exact hall.out x h1 h3
     ·obtain rfl:x=j:=by omega
      exact HZ.out,trivial⟩,by simp[intOf]<;>omega⟩
   ·have b1:(Cw (gI l j) !=0)=true:=by simpa using hz
    have HZ:=A6 hz;clear hz;by_cases hp:gI (Dd l) j<0
    ·have HN:Hid (noP l k):=A6 (fun i h1 h2 h3 h4=>by
      rcases Nat.lt_trichotomy i j with h5|h5|h5
      ·exact absurd (hall.out i h1 h5) h3
      ·subst h5;exact hp
      ·exact absurd (h4 j hj1 h5) HZ.out)
     exact I21
    ·obtain⟨m,hm1,hm2⟩:=HF.out j hlt (by omega)
     have HM:=A6 hm1;rw[hm1]at d2 hp;clear hm1 hp;go_wp2_with fail
     have hbf:=HBF.out m true;have c6:=hbf.cell 0;have c7:=hbf.cell 1;simp only[Ah,Af,Ag]at c6 c7;clear c4 c5 f0 f1 c0 c1 hbf;refine bodyPost_ret (by simp[results,Tryz.results173,go_sem,c6,c7];try rfl) rfl ?_
     exact⟨.inl ⟨j,m,⟨hj1,by rw[hlen.out];exact hlt,HZ.out,hall.out,HM.out,hm2⟩,rfl⟩,HEF.out _ _⟩
  ·have HN:Hid (noP l k):=A6 (fun i h1 h2 h3 h4=>absurd (hall.out i h1 (by rw[hlen.out]at h2;omega)) h3)
   exact I21
def Ds:Option (Nat×Bool)→Ending
 |some (a,i)=>.returned (.tuple #[.agg #[.int .i64 a,.bool i],.int .i64 0])
 |none=>.returned (.tuple #[.agg #[.int .i64 0,.bool false],.int .i64 5])
def Qp:Option Nat→Ending
 |some a=>.returned (.tuple #[.int .i64 a,.int .i64 0])
 |none=>.returned (.tuple #[.int .i64 0,.int .i64 5])
theorem fI {ch:Int}(hl:Bl w A n c l)(hn:n≤4096)(hk:k≤n)(hg1:1≤g)(hg2:g≤4096):
 Calls Tryz.prog 167 #[.agg #[.slice A n c,.int .i64 k,.int .i64 g,.bool op],.int .i64 ch,.int .i64 1] w fun e w'=>e=Qp (J7 l ch (n-(k+1)) (k+1) g)∧An w w':=by
 have hnc:=hl.ncap;have hcm:=hl.nmax;unfold maxLen at hcm;have hx0:=An.alloc w (.cells #[.slice A n c,.int .i64 k,.int .i64 g,.bool op] 222);have hb0:=Aq.new w 222 #[.slice A n c,.int .i64 k,.int .i64 g,.bool op];have hl1:=hl.ext hx0;go_enter Tryz.func167,Tryz.ntmps167
 go_wp2_with fail
 go_loopw [8,9] (fun v i wr=>∃m j:Nat,1≤m∧m≤g∧k+1≤j∧j≤n+1∧v=.int .i64 m∧i=.int .i64 j∧Hid (J7 l ch (n-j) j m=J7 l ch (n-(k+1)) (k+1) g)∧wr=w.alloc (.cells #[.slice A n c,.int .i64 k,.int .i64 g,.bool op] 222)) (fun _ i _=>n+1-(intOf i).toNat)
 case atStart=>exact⟨g,k+1,hg1,Aj _,Aj _,by omega,rfl,by go_num,rfl,rfl⟩
 case round=>
  obtain⟨m,j,h1,h2,h3,h4,rfl,rfl,HF,rfl⟩:=hrel;have c0:=hb0.cell 0;simp only[Ah,Af,Ag]at c0;by_cases hlt:j<n
  ·obtain⟨a1,rfl,hc1⟩:=hl1.at_ hlt
   have d1:=hc1 j hlt;have HS:Hid (J7 l ch (n-j) j m=if gI l j=ch then(if m=1 then some j else J7 l ch (n-(j+1)) (j+1) (m-1))else J7 l ch (n-(j+1)) (j+1) m):=by
    show J7 l ch (n-j) j m=_
    rw[show n-j=(n-(j+1))+1 by omega];rfl
   clear hc1;by_cases hz:gI l j=ch
   ·have b1:(gI l j==ch)=true:=by simpa using hz
    have HZ:=A6 hz;clear hz;by_cases hm:m=1
    ·exact I96
    ·have b2:((m:Int)-1==0)=false:=by simp;omega
     go_wp2_with fail
     exact⟨⟨m-1,j+1,by omega,by omega,by omega,by omega,by congr 1;omega,by go_num,by
      show _=_
      rw[←HF.out,HS.out,if_pos HZ.out,if_neg hm],trivial⟩,by simp[intOf]<;>omega⟩
   ·have b1:(gI l j==ch)=false:=by simpa using hz
    have HZ:=A6 hz;clear hz;go_wp2_with fail
    exact⟨⟨m,j+1,by omega,by omega,by omega,by omega,by go_num,by go_num,by
     show _=_
     rw[←HF.out,HS.out,if_neg HZ.out],trivial⟩,by simp[intOf]<;>omega⟩
  ·have HN:Hid (J7 l ch (n-j) j m=none):=by
    show _=none
    rw[show n-j=0 by omega];rfl
   go_wp2_with fail
   go_ret2
   exact⟨by rw[←HF.out,HN.out];rfl,hx0⟩
theorem lT {ch:Int}(hl:Bl w A n c l)(hn:n≤4096)(hk:k≤n)(hg1:1≤g)(hg2:g≤4096):
 Calls Tryz.prog 167 #[.agg #[.slice A n c,.int .i64 k,.int .i64 g,.bool op],.int .i64 ch,.int .i64 (-1)] w fun e w'=>e=Qp (Kb l ch k g)∧An w w':=by
 have hnc:=hl.ncap;have hcm:=hl.nmax;unfold maxLen at hcm;have hx0:=An.alloc w (.cells #[.slice A n c,.int .i64 k,.int .i64 g,.bool op] 222);have hb0:=Aq.new w 222 #[.slice A n c,.int .i64 k,.int .i64 g,.bool op];have hl1:=hl.ext hx0;go_enter Tryz.func167,Tryz.ntmps167
 go_wp2_with fail
 go_loopw [8,9] (fun v i wr=>∃m j:Nat,1≤m∧m≤g∧j≤k∧v=.int .i64 m∧i=.int .i64 ((j:Int)-1)∧Hid (Kb l ch j m=Kb l ch k g)∧wr=w.alloc (.cells #[.slice A n c,.int .i64 k,.int .i64 g,.bool op] 222)) (fun _ i _=>(intOf i+1).toNat)
 case atStart=>exact⟨g,k,hg1,Aj _,Aj _,rfl,by go_num,rfl,rfl⟩
 case round=>
  obtain⟨m,j,h1,h2,h3,rfl,rfl,HF,rfl⟩:=hrel;have c0:=hb0.cell 0;simp only[Ah,Af,Ag]at c0;rcases j with _|j
  ·go_wp2_with fail
   go_ret2
   exact⟨by rw[←HF.out];rfl,hx0⟩
  ·rw[show((j+1:Nat):Int)-1=(j:Int)by omega]
   have hlt:j<n:=by omega
   obtain⟨a1,rfl,hc1⟩:=hl1.at_ hlt;have d1:=hc1 j hlt;have HS:Hid (Kb l ch (j+1) m=if gI l j=ch then(if m=1 then some j else Kb l ch j (m-1))else Kb l ch j m):=rfl;clear hc1;by_cases hz:gI l j=ch
   ·have b1:(gI l j==ch)=true:=by simpa using hz
    have HZ:=A6 hz;clear hz;by_cases hm:m=1
    ·exact I96
    ·have b2:((m:Int)-1==0)=false:=by simp;omega
     go_wp2_with fail
     exact⟨⟨m-1,j,by omega,by omega,by omega,by congr 1;omega,by go_num,by
      show _=_
      rw[←HF.out,HS.out,if_pos HZ.out,if_neg hm],trivial⟩,by simp[intOf]<;>omega⟩
   ·have b1:(gI l j==ch)=false:=by simpa using hz
    have HZ:=A6 hz;clear hz;go_wp2_with fail
    exact⟨⟨m,j,by omega,by omega,by omega,by go_num,by go_num,by
     show _=_
     rw[←HF.out,HS.out,if_neg HZ.out],trivial⟩,by simp[intOf]<;>omega⟩
theorem D8 {w W:World}{q T:Nat}{x0 y0:Value}(hb:Aq W q T #[x0,y0])(he:An w W)(hq:w.heap.size≤q):
 (∀x y:Value,((W.setCell ⟨q,0,none⟩ x).setCell ⟨q,1,none⟩ y).cell? ⟨q,0,none⟩=some x)∧(∀x y:Value,((W.setCell ⟨q,0,none⟩ x).setCell ⟨q,1,none⟩ y).cell? ⟨q,1,none⟩=some y)∧
 (∀x y:Value,An w ((W.setCell ⟨q,0,none⟩ x).setCell ⟨q,1,none⟩ y))∧(∀x:Value,An w (W.setCell ⟨q,0,none⟩ x))∧(∀y:Value,An w (W.setCell ⟨q,1,none⟩ y)):=by
 refine⟨fun x y=>?_,fun x y=>?_,fun x y=>(he.setCell hq _).setCell hq _,fun x=>he.setCell hq _,fun x=>he.setCell hq _⟩
 ·have:=((hb.set_ 0 x).set_ 1 y).cell 0
  simpa using this
 ·have:=((hb.set_ 0 x).set_ 1 y).cell 1
  simpa using this
theorem Xk (w:World)(v0 v1 v2 v3:Value):Aq ((w.alloc (.cells #[v0,v1,v2,v3] 222)).alloc (.cells #[.int .i64 0,.bool false] 224)) (w.heap.size+1) 224 #[.int .i64 0,.bool false]:=by
 simpa using Aq.new (w.alloc (.cells #[v0,v1,v2,v3] 222)) 224 #[.int .i64 0,.bool false]
theorem rE (w:World)(v0 v1 v2 v3:Value):Aq ((w.alloc (.cells #[v0,v1,v2,v3] 222)).alloc (.cells #[.int .i64 0,.bool false] 224)) w.heap.size 222 #[v0,v1,v2,v3]:=
 (Aq.new w _ _).ext (An.alloc _ _)
theorem Pp {x:Int}{a:Nat}{i:Bool}(h:x=a):Ending.returned (.tuple #[.agg #[.int .i64 x,.bool i],.int .i64 0])=Ds (some (a,i)):=by rw[h];rfl
theorem Sp (a:Nat)(i:Bool):Ds (some (a,i))=.returned (.tuple #[.agg #[.int .i64 a,.bool i],.int .i64 0]):=rfl
theorem Mk:Ds none=.returned (.tuple #[.agg #[.int .i64 0,.bool false],.int .i64 5]):=rfl
theorem Za (hnc:n≤c)(hcm:c≤maxLen)(hn:n≤4096)(hk:k≤n)(hg1:1≤g)(hg2:g≤4096):
 Calls Tryz.prog 168 #[.agg #[.slice A n c,.int .i64 k,.int .i64 g,.bool op]] w fun e w'=>e=Ds (if(if op=true then n else n-1)≤k then none else some (min (if op=true then n else n-1) (k+g),false))∧An w w':=by
 unfold maxLen at hcm;have hx0:An w ((w.alloc (.cells #[.slice A n c,.int .i64 k,.int .i64 g,.bool op] 222)).alloc (.cells #[.int .i64 0,.bool false] 224)):=(An.alloc _ _).to_alloc _;have hb2:=Xk w (.slice A n c) (.int .i64 k) (.int .i64 g) (.bool op);have HB:=A6 hb2;have c0:=hb2.cell 0;have c1:=hb2.cell 1;have f0:=hb2.frozen 0;have f1:=hb2.frozen 1;simp only[Ah,Af,Ag]at c0 c1;clear hb2;cases op
 ·have N0:=trivial;exact S5
 ·have N1:=trivial;exact S5
theorem Us {f:FuncId}{s:Nat→Nat}(hl:Bl w A n c l)(hn:n≤4096)(hk:k≤n)(hg2:g≤4096)
 (hent:Hid (∀(args:Array Value) (w1:World),Sem.run Tryz.prog (callFunc f args) w1=.ok (.enter f args) w1)) (hs:Hid (∀j,j≤n→s j≤n)) (H:Hid (∀(w1:World) (j:Nat),j≤n→Bl w1 A n c l→Calls Tryz.prog f #[.slice A n c,.int .i64 j,.bool big] w1 fun e w'=>e=.returned (.tuple #[.int .i64 (s j),.int .i64 0])∧An w1 w')):
 Calls Tryz.prog 170 #[.agg #[.slice A n c,.int .i64 k,.int .i64 g,.bool op],.func (.func f) #[] #[],.bool big] w fun e w'=>e=.returned (.int .i64 (Q8 s g k))∧An w w':=by
 have hnc:=hl.ncap;have hcm:=hl.nmax;unfold maxLen at hcm;have hx0:=An.alloc w (.cells #[.slice A n c,.int .i64 k,.int .i64 g,.bool op] 222);have hb0:=Aq.new w 222 #[.slice A n c,.int .i64 k,.int .i64 g,.bool op];go_enter Tryz.func170,Tryz.ntmps170
 go_wp2_with fail
 go_loopw [7,12] (fun v i wr=>∃j m:Nat,j≤g∧m≤n∧i=.int .i64 j∧v=.int .i64 m∧Hid (m=Q8 s j k)∧An (w.alloc (.cells #[.slice A n c,.int .i64 k,.int .i64 g,.bool op] 222)) wr) (fun _ i _=>g-(intOf i).toNat)
 case atStart=>exact⟨0,k,by omega,hk,rfl,rfl,rfl,An.refl _⟩
 case round=>
  obtain⟨j,m,h1,h2,rfl,rfl,HM,he⟩:=hrel;have c0:=(hb0.ext he).cell 0;simp only[Ah,Af,Ag]at c0;by_cases hlt:j<g
  ·have hl1:=hl.ext (hx0.trans he)
   go_wp2_with fail
   rw[hent.out];refine(H.out _ m h2 hl1).mono ?_
   rintro e w1 ⟨rfl,he1⟩;have HS:Hid (s m≤n∧s m=Q8 s (j+1) k):=A6 ⟨hs.out m h2,by rw[HM.out];rfl⟩
   clear hb0 c0;generalize s m=m' at*;have h3:=HS.out.1;go_wp2_with fail
   exact⟨⟨j+1,m',by omega,h3,by go_num,rfl,A6 HS.out.2,he.trans he1⟩,by simp[intOf]<;>omega⟩
  ·go_wp2_with fail
   go_ret
   refine⟨Jb ?_,hx0.trans he⟩
   have:j=g:=by omega
   rw[HM.out,this]
theorem rN (hl:Bl w A n c l)(hn:n≤4096):
 Calls Tryz.prog 169 #[.agg #[.slice A n c,.int .i64 k,.int .i64 g,.bool op]] w fun e w'=>e=.returned (.int .i64 (Fz l))∧An w w':=by
 have hnc:=hl.ncap;have hcm:=hl.nmax;have hlen:=A6 hl.len;unfold maxLen at hcm;have hx0:=An.alloc w (.cells #[.slice A n c,.int .i64 k,.int .i64 g,.bool op] 222);have hb0:=Aq.new w 222 #[.slice A n c,.int .i64 k,.int .i64 g,.bool op];have hl1:=hl.ext hx0;have c0:=hb0.cell 0;simp only[Ah,Af,Ag]at c0;go_enter Tryz.func169,Tryz.ntmps169
 go_wp2_with fail
 go_loopw [8] (fun i wr=>∃j:Nat,j≤n∧i=.int .i64 j∧Hid (∀x:Nat,0≤x→x<j→B8 l true x=0)∧wr=w.alloc (.cells #[.slice A n c,.int .i64 k,.int .i64 g,.bool op] 222)) (fun i _=>n-(intOf i).toNat)
 case atStart=>exact⟨0,by omega,rfl,fun x h1 h2=>absurd h2 (by omega),rfl⟩
 case round=>
  obtain⟨j,h1,rfl,HA,rfl⟩:=hrel;by_cases hlt:j<n
  ·obtain⟨a1,rfl,hc1⟩:=hl1.at_ hlt
   have d1:=hc1 j hlt;have HK:Hid (B8 l true j=Bj (gI l j) true):=A6 (Gk (by rw[hlen.out];omega))
   clear hc1;go_wp2_with fail
   refine(Uo _ _ _).mono ?_
   rintro e w1 ⟨rfl,rfl⟩;by_cases hz:Bj (gI l j) true=0
   ·have b1:(Bj (gI l j) true !=0)=false:=by simpa using hz
    have HZ:=A6 hz;clear hz;go_wp2_with fail
    exact⟨⟨j+1,by omega,by go_num,fun x h1 h2=>by
     rcases Nat.lt_or_ge x j with h3|h3
     ·exact HA.out x h1 h3
     ·obtain rfl:x=j:=by omega
      rw[HK.out,HZ.out],trivial⟩,by simp[intOf]<;>omega⟩
   ·have b1:(Bj (gI l j) true !=0)=true:=by simpa using hz
    have HZ:=A6 hz;clear hz;go_wp2_with fail
    go_ret
    refine⟨Jb ?_,hx0⟩
    have:Et l true 0 0=j:=Rb (by omega) (by omega) HA.out (by rw[HK.out];exact HZ.out)
    unfold Fz;rw[this,if_pos (by rw[hlen.out];exact hlt)]
  ·have HF:Hid (Fz l=n-1):=by
    show Fz l=n-1
    have:Et l true 0 0=n:=Rb (by omega) (by omega) (fun x h1 h2=>HA.out x h1 (by omega)) (by rw[La (by rw[hlen.out];omega)];omega)
    unfold Fz;rw[this,if_neg (by rw[hlen.out];omega),hlen.out]
   go_wp2_with fail
   all_goals
    go_ret
    refine⟨Jb ?_,hx0⟩
    rw[HF.out];omega
theorem aE {k g X:Nat}(hnc:n≤c)(hcm:c≤maxLen)(hn:n≤4096)(hk:k≤n)(h0:0<n)(hX:X≤n)
 (H:Hid (∀w1:World,An w w1→Calls Tryz.prog 170 #[.agg #[.slice A n c,.int .i64 k,.int .i64 g,.bool op],.func (.func 180) #[] #[],.bool big] w1 fun e w'=>e=.returned (.int .i64 X)∧An w1 w')):
 Calls Tryz.prog 171 #[.agg #[.slice A n c,.int .i64 k,.int .i64 g,.bool op],.bool big] w fun e w'=>e=Ds (if op=true then some (X,false)else if min X (n-1)=k then none else some (min X (n-1),false))∧An w w':=by
 have N31:=trivial;exact Pw
theorem iN {k g X:Nat}(hnc:n≤c)(hcm:c≤maxLen)(hn:n≤4096)(hk:k≤n)(h0:0<n)(hX:X≤n)
 (H:Hid (∀w1:World,An w w1→Calls Tryz.prog 170 #[.agg #[.slice A n c,.int .i64 k,.int .i64 g,.bool op],.func (.func 181) #[] #[],.bool big] w1 fun e w'=>e=.returned (.int .i64 X)∧An w1 w')):
 Calls Tryz.prog 172 #[.agg #[.slice A n c,.int .i64 k,.int .i64 g,.bool op],.bool big] w fun e w'=>e=Ds (if op=false∧X=k then none else some (X,true))∧An w w':=by
 have N32:=trivial;exact Pw
theorem kT (a:Nat):Qp (some a)=.returned (.tuple #[.int .i64 a,.int .i64 0]):=rfl
theorem kU:Qp none=.returned (.tuple #[.int .i64 0,.int .i64 5]):=rfl
theorem J1n {l:List Int}(hnc:n≤c)(hcm:c≤maxLen)(hn:n≤4096)(hk:k≤n)(hg1:1≤g)(hg2:g≤4096)(h0:k=0):
 Calls Tryz.prog 146 #[.agg #[.slice A n c,.int .i64 k,.int .i64 g,.bool op],.int .i64 104] w fun e w'=>e=Ds (none)∧An w w':=by
 have N0:=trivial;exact Pw
theorem J1m {l:List Int}(hnc:n≤c)(hcm:c≤maxLen)(hn:n≤4096)(hk:k≤n)(hg1:1≤g)(hg2:g≤4096)(h0:0<k):
 Calls Tryz.prog 146 #[.agg #[.slice A n c,.int .i64 k,.int .i64 g,.bool op],.int .i64 104] w fun e w'=>e=Ds (some (k-g,false))∧An w w':=by
 have N1:=trivial;exact Pw
theorem J2l {l:List Int}(hnc:n≤c)(hcm:c≤maxLen)(hn:n≤4096)(hk:k≤n)(hg1:1≤g)(hg2:g≤4096):
 Calls Tryz.prog 146 #[.agg #[.slice A n c,.int .i64 k,.int .i64 g,.bool op],.int .i64 48] w fun e w'=>e=Ds (some (0,false))∧An w w':=by
 have N2:=trivial;exact Pw
theorem zJ {l:List Int}(hnc:n≤c)(hcm:c≤maxLen)(hn:n≤4096)(hk:k≤n)(hg1:1≤g)(hg2:g≤4096)(h0:n=0):
 Calls Tryz.prog 146 #[.agg #[.slice A n c,.int .i64 k,.int .i64 g,.bool op],.int .i64 36] w fun e w'=>e=Ds (none)∧An w w':=by
 have N3:=trivial;exact Pw
theorem J1u {l:List Int}(hnc:n≤c)(hcm:c≤maxLen)(hn:n≤4096)(hk:k≤n)(hg1:1≤g)(hg2:g≤4096)(h0:0<n):
 Calls Tryz.prog 146 #[.agg #[.slice A n c,.int .i64 k,.int .i64 g,.bool op],.int .i64 36] w fun e w'=>e=Ds (some (n-1,true))∧An w w':=by
 have N4:=trivial;exact Pw
theorem uM {l:List Int}(hnc:n≤c)(hcm:c≤maxLen)(hn:n≤4096)(hk:k≤n)(hg1:1≤g)(hg2:g≤4096)(h0:n=0):
 Calls Tryz.prog 146 #[.agg #[.slice A n c,.int .i64 k,.int .i64 g,.bool op],.int .i64 124] w fun e w'=>e=Ds (none)∧An w w':=by
 have N5:=trivial;exact Pw
theorem zK {l:List Int}(hnc:n≤c)(hcm:c≤maxLen)(hn:n≤4096)(hk:k≤n)(hg1:1≤g)(hg2:g≤4096)(h0:0<n):
 Calls Tryz.prog 146 #[.agg #[.slice A n c,.int .i64 k,.int .i64 g,.bool op],.int .i64 124] w fun e w'=>e=Ds (some (min g n-1,false))∧An w w':=by
 have N6:=trivial;exact Pw
theorem uN {l:List Int}(hnc:n≤c)(hcm:c≤maxLen)(hn:n≤4096)(hk:k≤n)(hg1:1≤g)(hg2:g≤4096)(h0:n=0):
 Calls Tryz.prog 146 #[.agg #[.slice A n c,.int .i64 k,.int .i64 g,.bool op],.int .i64 119] w fun e w'=>e=Ds (none)∧An w w':=by
 have N7:=trivial;exact Pw
theorem zF {l:List Int}(hnc:n≤c)(hcm:c≤maxLen)(hn:n≤4096)(hk:k≤n)(hg1:1≤g)(hg2:g≤4096)(h0:n=0):
 Calls Tryz.prog 146 #[.agg #[.slice A n c,.int .i64 k,.int .i64 g,.bool op],.int .i64 87] w fun e w'=>e=Ds (none)∧An w w':=by
 have N8:=trivial;exact Pw
theorem uO {l:List Int}(hnc:n≤c)(hcm:c≤maxLen)(hn:n≤4096)(hk:k≤n)(hg1:1≤g)(hg2:g≤4096)(h0:n=0):
 Calls Tryz.prog 146 #[.agg #[.slice A n c,.int .i64 k,.int .i64 g,.bool op],.int .i64 101] w fun e w'=>e=Ds (none)∧An w w':=by
 have N9:=trivial;exact Pw
theorem zG {l:List Int}(hnc:n≤c)(hcm:c≤maxLen)(hn:n≤4096)(hk:k≤n)(hg1:1≤g)(hg2:g≤4096)(h0:n=0):
 Calls Tryz.prog 146 #[.agg #[.slice A n c,.int .i64 k,.int .i64 g,.bool op],.int .i64 69] w fun e w'=>e=Ds (none)∧An w w':=by
 have N10:=trivial;exact Pw
theorem zI {l:List Int}(hnc:n≤c)(hcm:c≤maxLen)(hn:n≤4096)(hk:k≤n)(hg1:1≤g)(hg2:g≤4096)(h0:n=0):
 Calls Tryz.prog 146 #[.agg #[.slice A n c,.int .i64 k,.int .i64 g,.bool op],.int .i64 37] w fun e w'=>e=Ds (none)∧An w w':=by
 have N11:=trivial;exact Pw
theorem J1p {l:List Int}(hnc:n≤c)(hcm:c≤maxLen)(hn:n≤4096)(hk:k≤n)(hg1:1≤g)(hg2:g≤4096)(H:Hid (∀w1:World,An w w1→Calls Tryz.prog 169 #[.agg #[.slice A n c,.int .i64 k,.int .i64 g,.bool op]] w1 fun e w'=>e=.returned (.int .i64 X)∧An w1 w')):
 Calls Tryz.prog 146 #[.agg #[.slice A n c,.int .i64 k,.int .i64 g,.bool op],.int .i64 94] w fun e w'=>e=Ds (some (X,false))∧An w w':=by
 have N12:=trivial;exact Pw
theorem zE {l:List Int}(hnc:n≤c)(hcm:c≤maxLen)(hn:n≤4096)(hk:k≤n)(hg1:1≤g)(hg2:g≤4096)(h0:k=0):
 Calls Tryz.prog 146 #[.agg #[.slice A n c,.int .i64 k,.int .i64 g,.bool op],.int .i64 98] w fun e w'=>e=Ds (none)∧An w w':=by
 have N13:=trivial;exact Pw
theorem J1o {l:List Int}(hnc:n≤c)(hcm:c≤maxLen)(hn:n≤4096)(hk:k≤n)(hg1:1≤g)(hg2:g≤4096)(h0:0<k)(H:Hid (∀w1:World,An w w1→Calls Tryz.prog 170 #[.agg #[.slice A n c,.int .i64 k,.int .i64 g,.bool op],.func (.func 133) #[] #[],.bool false] w1 fun e w'=>e=.returned (.int .i64 X)∧An w1 w')):
 Calls Tryz.prog 146 #[.agg #[.slice A n c,.int .i64 k,.int .i64 g,.bool op],.int .i64 98] w fun e w'=>e=Ds (some (X,false))∧An w w':=by
 have N14:=trivial;exact Pw
theorem zH {l:List Int}(hnc:n≤c)(hcm:c≤maxLen)(hn:n≤4096)(hk:k≤n)(hg1:1≤g)(hg2:g≤4096)(h0:k=0):
 Calls Tryz.prog 146 #[.agg #[.slice A n c,.int .i64 k,.int .i64 g,.bool op],.int .i64 66] w fun e w'=>e=Ds (none)∧An w w':=by
 have N15:=trivial;exact Pw
theorem J1s {l:List Int}(hnc:n≤c)(hcm:c≤maxLen)(hn:n≤4096)(hk:k≤n)(hg1:1≤g)(hg2:g≤4096)(h0:0<k)(H:Hid (∀w1:World,An w w1→Calls Tryz.prog 170 #[.agg #[.slice A n c,.int .i64 k,.int .i64 g,.bool op],.func (.func 133) #[] #[],.bool true] w1 fun e w'=>e=.returned (.int .i64 X)∧An w1 w')):
 Calls Tryz.prog 146 #[.agg #[.slice A n c,.int .i64 k,.int .i64 g,.bool op],.int .i64 66] w fun e w'=>e=Ds (some (X,false))∧An w w':=by
 have N16:=trivial;exact Pw
theorem zM {l:List Int}(hnc:n≤c)(hcm:c≤maxLen)(hn:n≤4096)(hk:k≤n)(hg1:1≤g)(hg2:g≤4096)(H:Hid (∀w1:World,An w w1→Calls Tryz.prog 168 #[.agg #[.slice A n c,.int .i64 k,.int .i64 g,.bool op]] w1 fun e w'=>e=Ds o∧An w1 w')):
 Calls Tryz.prog 146 #[.agg #[.slice A n c,.int .i64 k,.int .i64 g,.bool op],.int .i64 108] w fun e w'=>e=Ds (o)∧An w w':=by
 have N17:=trivial;exact Pw
theorem zL {l:List Int}(hnc:n≤c)(hcm:c≤maxLen)(hn:n≤4096)(hk:k≤n)(hg1:1≤g)(hg2:g≤4096)(h0:0<n)(H:Hid (∀w1:World,An w w1→Calls Tryz.prog 171 #[.agg #[.slice A n c,.int .i64 k,.int .i64 g,.bool op],.bool false] w1 fun e w'=>e=Ds o∧An w1 w')):
 Calls Tryz.prog 146 #[.agg #[.slice A n c,.int .i64 k,.int .i64 g,.bool op],.int .i64 119] w fun e w'=>e=Ds (o)∧An w w':=by
 have N18:=trivial;exact Pw
theorem J1q {l:List Int}(hnc:n≤c)(hcm:c≤maxLen)(hn:n≤4096)(hk:k≤n)(hg1:1≤g)(hg2:g≤4096)(h0:0<n)(H:Hid (∀w1:World,An w w1→Calls Tryz.prog 171 #[.agg #[.slice A n c,.int .i64 k,.int .i64 g,.bool op],.bool true] w1 fun e w'=>e=Ds o∧An w1 w')):
 Calls Tryz.prog 146 #[.agg #[.slice A n c,.int .i64 k,.int .i64 g,.bool op],.int .i64 87] w fun e w'=>e=Ds (o)∧An w w':=by
 have N19:=trivial;exact Pw
theorem zN {l:List Int}(hnc:n≤c)(hcm:c≤maxLen)(hn:n≤4096)(hk:k≤n)(hg1:1≤g)(hg2:g≤4096)(h0:0<n)(H:Hid (∀w1:World,An w w1→Calls Tryz.prog 172 #[.agg #[.slice A n c,.int .i64 k,.int .i64 g,.bool op],.bool false] w1 fun e w'=>e=Ds o∧An w1 w')):
 Calls Tryz.prog 146 #[.agg #[.slice A n c,.int .i64 k,.int .i64 g,.bool op],.int .i64 101] w fun e w'=>e=Ds (o)∧An w w':=by
 have N20:=trivial;exact Pw
theorem J1r {l:List Int}(hnc:n≤c)(hcm:c≤maxLen)(hn:n≤4096)(hk:k≤n)(hg1:1≤g)(hg2:g≤4096)(h0:0<n)(H:Hid (∀w1:World,An w w1→Calls Tryz.prog 172 #[.agg #[.slice A n c,.int .i64 k,.int .i64 g,.bool op],.bool true] w1 fun e w'=>e=Ds o∧An w1 w')):
 Calls Tryz.prog 146 #[.agg #[.slice A n c,.int .i64 k,.int .i64 g,.bool op],.int .i64 69] w fun e w'=>e=Ds (o)∧An w w':=by
 have N21:=trivial;exact Pw
theorem J1t {l:List Int}(hnc:n≤c)(hcm:c≤maxLen)(hn:n≤4096)(hk:k≤n)(hg1:1≤g)(hg2:g≤4096){R:Option (Nat×Bool)→Prop}(h0:0<n)(H:Hid (∀w1:World,An w w1→Calls Tryz.prog 173 #[.agg #[.slice A n c,.int .i64 k,.int .i64 g,.bool op]] w1 fun e w'=>(∃o,R o∧e=Ds o)∧An w1 w')):
 Calls Tryz.prog 146 #[.agg #[.slice A n c,.int .i64 k,.int .i64 g,.bool op],.int .i64 37] w fun e w'=>(∃o,R o∧e=Ds o)∧An w w':=by
 have N22:=trivial;exact Pw
theorem wC {l:List Int}(hnc:n≤c)(hcm:c≤maxLen)(hn:n≤4096)(hk:k≤n)(hg1:1≤g)(hg2:g≤4096)(H:Hid (∀w1:World,An w w1→Calls Tryz.prog 167 #[.agg #[.slice A n c,.int .i64 k,.int .i64 g,.bool op],.int .i64 arg,.int .i64 1] w1 fun e w'=>e=Qp none∧An w1 w')):
 Calls Tryz.prog 145 #[.agg #[.slice A n c,.int .i64 k,.int .i64 g,.bool op],.int .i64 102,.int .i64 arg] w fun e w'=>e=Ds (none)∧An w w':=by
 have N23:=trivial;exact Pw
theorem wB {l:List Int}(hnc:n≤c)(hcm:c≤maxLen)(hn:n≤4096)(hk:k≤n)(hg1:1≤g)(hg2:g≤4096)(hj:1≤j∧j≤4096)(H:Hid (∀w1:World,An w w1→Calls Tryz.prog 167 #[.agg #[.slice A n c,.int .i64 k,.int .i64 g,.bool op],.int .i64 arg,.int .i64 1] w1 fun e w'=>e=Qp (some j)∧An w1 w')):
 Calls Tryz.prog 145 #[.agg #[.slice A n c,.int .i64 k,.int .i64 g,.bool op],.int .i64 102,.int .i64 arg] w fun e w'=>e=Ds (some (j,true))∧An w w':=by
 have N24:=trivial;exact Pw
theorem J0m {l:List Int}(hnc:n≤c)(hcm:c≤maxLen)(hn:n≤4096)(hk:k≤n)(hg1:1≤g)(hg2:g≤4096)(H:Hid (∀w1:World,An w w1→Calls Tryz.prog 167 #[.agg #[.slice A n c,.int .i64 k,.int .i64 g,.bool op],.int .i64 arg,.int .i64 (-1)] w1 fun e w'=>e=Qp none∧An w1 w')):
 Calls Tryz.prog 145 #[.agg #[.slice A n c,.int .i64 k,.int .i64 g,.bool op],.int .i64 70,.int .i64 arg] w fun e w'=>e=Ds (none)∧An w w':=by
 have N25:=trivial;exact Pw
theorem J0l {l:List Int}(hnc:n≤c)(hcm:c≤maxLen)(hn:n≤4096)(hk:k≤n)(hg1:1≤g)(hg2:g≤4096)(hj:j≤4096)(H:Hid (∀w1:World,An w w1→Calls Tryz.prog 167 #[.agg #[.slice A n c,.int .i64 k,.int .i64 g,.bool op],.int .i64 arg,.int .i64 (-1)] w1 fun e w'=>e=Qp (some j)∧An w1 w')):
 Calls Tryz.prog 145 #[.agg #[.slice A n c,.int .i64 k,.int .i64 g,.bool op],.int .i64 70,.int .i64 arg] w fun e w'=>e=Ds (some (j,false))∧An w w':=by
 have N26:=trivial;exact Pw
theorem wA {l:List Int}(hnc:n≤c)(hcm:c≤maxLen)(hn:n≤4096)(hk:k≤n)(hg1:1≤g)(hg2:g≤4096)(H:Hid (∀w1:World,An w w1→Calls Tryz.prog 167 #[.agg #[.slice A n c,.int .i64 k,.int .i64 g,.bool op],.int .i64 arg,.int .i64 1] w1 fun e w'=>e=Qp none∧An w1 w')):
 Calls Tryz.prog 145 #[.agg #[.slice A n c,.int .i64 k,.int .i64 g,.bool op],.int .i64 116,.int .i64 arg] w fun e w'=>e=Ds (none)∧An w w':=by
 have N27:=trivial;exact Pw
theorem vZ {l:List Int}(hnc:n≤c)(hcm:c≤maxLen)(hn:n≤4096)(hk:k≤n)(hg1:1≤g)(hg2:g≤4096)(hj:1≤j∧j≤4096)(H:Hid (∀w1:World,An w w1→Calls Tryz.prog 167 #[.agg #[.slice A n c,.int .i64 k,.int .i64 g,.bool op],.int .i64 arg,.int .i64 1] w1 fun e w'=>e=Qp (some j)∧An w1 w')):
 Calls Tryz.prog 145 #[.agg #[.slice A n c,.int .i64 k,.int .i64 g,.bool op],.int .i64 116,.int .i64 arg] w fun e w'=>e=Ds (some (j-1,true))∧An w w':=by
 have N28:=trivial;exact Pw
theorem J0k {l:List Int}(hnc:n≤c)(hcm:c≤maxLen)(hn:n≤4096)(hk:k≤n)(hg1:1≤g)(hg2:g≤4096)(H:Hid (∀w1:World,An w w1→Calls Tryz.prog 167 #[.agg #[.slice A n c,.int .i64 k,.int .i64 g,.bool op],.int .i64 arg,.int .i64 (-1)] w1 fun e w'=>e=Qp none∧An w1 w')):
 Calls Tryz.prog 145 #[.agg #[.slice A n c,.int .i64 k,.int .i64 g,.bool op],.int .i64 84,.int .i64 arg] w fun e w'=>e=Ds (none)∧An w w':=by
 have N29:=trivial;exact Pw
theorem J0j {l:List Int}(hnc:n≤c)(hcm:c≤maxLen)(hn:n≤4096)(hk:k≤n)(hg1:1≤g)(hg2:g≤4096)(hj:j≤4096)(H:Hid (∀w1:World,An w w1→Calls Tryz.prog 167 #[.agg #[.slice A n c,.int .i64 k,.int .i64 g,.bool op],.int .i64 arg,.int .i64 (-1)] w1 fun e w'=>e=Qp (some j)∧An w1 w')):
 Calls Tryz.prog 145 #[.agg #[.slice A n c,.int .i64 k,.int .i64 g,.bool op],.int .i64 84,.int .i64 arg] w fun e w'=>e=Ds (some (j+1,false))∧An w w':=by
 have N30:=trivial;exact Pw
end
