/-
  Part ZMapV.
-/
import Derived.Test.YtkaefdmhlmlhbaaGreatZWordW
import Derived.Maps.OwnOps
import Derived.Maps.Views
import Derived.IntWalk
set_option maxRecDepth 100000
set_option maxHeartbeats 16000000
set_option linter.unusedVariables false
set_option linter.unusedSimpArgs false
namespace Go.Proofs.YtkaefdmhlmlhbaaGreat
open Go.RowKit
open _root_.Go.Proofs.Tryz
open _root_.List renaming getElem?_cons_succ→Ag,getElem?_cons_zero→Af,getElem?_toArray→Ah,length_map→Cx
open _root_.Nat renaming le_refl→Aj
open Value renaming int→Av,slice→Ak
section
variable {A:Option Addr}{w:World}{n c k g j X:Nat}{op big:Bool}{o:Option (Nat×Bool)}{l:List Int}{arg:Int}{st:Int→List Nat}
open Go.RowKit Go.Maps
theorem dD:Keyed prog 3:=int_keyed underlying3
def aO (v:Value):Option (DataW Value×List MemPlace):=some (.held v,[])
def Kf (w:World)(z:Value)(b n:Nat)(f:Int→Value):Prop:=
 ∃D:DataW Value,w.ownsMap prog 3 aO b n D∧IsMap D∧∀k,(Lit.int .i64 k).wf=true→D.atKey (.int .i64 k) (.held z)=.held (f k)
def fK (f:Int→Value)(k:Int)(v:Value):Int→Value:=fun x=>if x=k then v else f x
theorem Ts (f:Int→Value)(k:Int)(v:Value):fK f k v k=v:=if_pos rfl
theorem Nu (f:Int→Value){k x:Int}(v:Value)(h:x≠k):fK f k v x=f x:=if_neg h
section
variable {w w':World} {z:Value} {b n:Nat} {f:Int→Value}
theorem Kf.made (w:World)(z:Value):Kf (w.alloc (.map #[] 0)) z w.heap.size 0 (fun _=>z):=
 ⟨.map [],World.ownsMap_made w _ _ _,⟨[],rfl⟩,fun _ _=>rfl⟩
theorem Kf.ext (h:Kf w z b n f)(he:An w w'):Kf w' z b n f:=by
 obtain⟨D,h1,h2,h3⟩:=h;obtain⟨es,clock,hb,r⟩:=h1;exact⟨D,⟨es,clock,(Below.block he b (Array.getElem?_eq_some_iff.1 hb).1).trans hb,r⟩,h2,h3⟩
theorem Kf.grown (h:Kf w z b n f){row:Option Nat}(hg:w.grownBy w' row)(hr:some b≠row):Kf w' z b n f:=by
 obtain⟨D,h1,h2,h3⟩:=h;exact⟨D,h1.kept hg hr,h2,h3⟩
theorem Kf.setCell (h:Kf w z b n f){p:Addr}(hp:p.block≠b)(u:Value):Kf (w.setCell p u) z b n f:=by
 obtain⟨D,h1,h2,h3⟩:=h;obtain⟨es,clock,hb,r⟩:=h1;exact⟨D,⟨es,clock,(Below.heap_setCell w p u b (fun e=>hp e.symm)).trans hb,r⟩,h2,h3⟩
theorem Kf.lt (h:Kf w z b n f):b<w.heap.size:=by obtain⟨D,h1,_⟩:=h;exact h1.lt
theorem Kf.block (h:Kf w z b n f):∃es clock,w.heap[b]? = some (.map es clock):=by
 obtain⟨D,⟨es,clock,hb,_⟩,_⟩:=h;exact⟨es,clock,hb⟩
theorem Kf.ne_own (h:Kf w z b n f){base e y k c:Nat}{A:Option Addr}{xs:List Value}(ho:Bd w base e y A k c xs):some b≠(Value.slice A k c).ownBlock:=by
 obtain⟨es,clock,hb⟩:=h.block;rcases ho.2 with⟨hv,_⟩|⟨g,cap,cur,hv,_,hg,_⟩
 ·rw[hv];simp[Value.ownBlock]
 ·rw[hv]
  intro e;simp[Value.ownBlock]at e;subst e;rw[hb]at hg;cases hg
theorem Kf.get (h:Kf w z b n f){t e:Nat}(ht:prog.underlying t=some (.map 3 e))(hz:(zeroValue e).run prog w=.ok z w){k:Int}(hk:(Lit.int .i64 k).wf=true):
 (Instr.lookup t (.map (some b)) (.int .i64 k) false).run prog w=.ok (f k) w:=by
 obtain⟨D,h1,h2,h3⟩:=h;obtain⟨v,ps,de,hv⟩:=h1.lookup dD ht hz (show aO z=some (.held z,[])from rfl) (keyOf_int_mk underlying3 hk)
 rw[h3 k hk]at hv;simp only[aO,Option.some.injEq,Prod.mk.injEq,DataW.held.injEq]at hv;rw[de,hv.1]
theorem Kf.put {w0:World}(h:Kf w z b n f){t e:Nat}(ht:prog.underlying t=some (.map 3 e))(hn:n<maxLen)(k:Int)(v:Value)
 (hk:(Lit.int .i64 k).wf=true) (he:An w0 w) (hb:w0.heap.size≤b):
 ∃w',(Instr.mapUpdate t (.map (some b)) (.int .i64 k) v).run prog w=.ok () w'∧Kf w' z b (n+1) (fK f k v)∧w.grownBy w' (some b)∧An w0 w':=by
 obtain⟨D,h1,h2,h3⟩:=h;obtain⟨w',de,k1,k2⟩:=h1.update dD ht hn (keyOf_int_mk underlying3 hk) (show aO v=some (.held v,[])from rfl)
 refine⟨w',de,⟨_,k1,h2.put _ _,fun x hx=>?_⟩,k2,Below.grown he k2 he.size (fun j hj=>by injection hj with hj;omega)⟩
 unfold fK;by_cases e:x=k
 ·subst e
  rw[if_pos rfl,atKey_put_same h2 (show WideAt.IsKeyLit (.int .i64 x)from trivial)]
 ·rw[if_neg e,atKey_put_other (by intro h;injection h with _ h;exact e h),h3 x hx]
end
theorem kK {x:Int}(h1 : -9223372036854775808≤x)(h2:x≤9223372036854775807):(Lit.int .i64 x).wf=true:=by
 simp[Lit.wf,IntKind.min,IntKind.max,IntKind.signed,IntKind.bits];omega
theorem tN {u u' v v':Value}(h1:u=u')(h2:v=v'):Ending.returned (.tuple #[u,v])=.returned (.tuple #[u',v']):=by rw[h1,h2]
theorem J4c {a b:Int}(h:a=b):Av .i64 a=.int .i64 b:=by rw[h]
theorem J5g {a b:Bool}(h:a=b):Value.bool a=.bool b:=by rw[h]
theorem cZ (c:Int)(w:World):Calls prog 176 #[.int .i64 c] w fun e w'=>e=.returned (.tuple #[.int .i64 (D8 c),.bool (Np c)])∧w=w':=by
 by_cases h1:c=40
 ·subst h1
  exact I13
 by_cases h2:c=91
 ·subst h2
  exact I13
 by_cases h3:c=123
 ·subst h3
  exact I13
 by_cases h4:c=41
 ·subst h4
  exact I13
 by_cases h5:c=93
 ·subst h5
  exact I13
 by_cases h6:c=125
 ·subst h6
  exact I13
 have k1:(c==40)=false:=by simpa using h1
 have k2:(c==91)=false:=by simpa using h2
 have k3:(c==123)=false:=by simpa using h3
 have k4:(c==41)=false:=by simpa using h4
 have k5:(c==93)=false:=by simpa using h5
 have k6:(c==125)=false:=by simpa using h6
 have e1:Hid (D8 c=0):=by show D8 c=0;unfold D8;simp[h1,h2,h3,h4,h5,h6]
 have e2:Hid (Np c=false):=by show Np c=false;unfold Np;simp[h4,h5,h6]
 clear h1 h2 h3 h4 h5 h6;go_enter func176,ntmps176
 go_wp2_with fail
 go_ret2
 exact⟨tN (J4c e1.out.symm) (J5g e2.out.symm),rfl⟩
theorem bJ (c:Int)(w:World):Calls prog 182 #[.int .i64 c] w fun e w'=>e=.returned (.tuple #[.int .i64 (D8 c),.bool (Np c)])∧w=w':=by
 go_enter func182,ntmps182
 go_wp2_with fail
 refine(cZ _ _).mono ?_
 rintro e w1 ⟨rfl,rfl⟩;go_wp2_with fail
 go_ret2
 exact⟨rfl,rfl⟩
def F9 (l:List Nat):List Int:=l.map fun x:Nat=>(x:Int)
theorem Mu (l:List Nat):(F9 l).length=l.length:=by simp[F9]
theorem Rj:∀{s:List Nat} {j:Nat},s.Pairwise (· < ·)→(∀x∈s,x<j)→s.length≤j
 |[],_,_,_=>Nat.zero_le _
 |x::s,j,h,hj=>by
  have h1:=List.pairwise_cons.1 h;have h2:(s.map (· - (x+1))).length≤j-(x+1):=by
   rw[Cx];have:=@Rj (s.map (· - (x+1))) (j-(x+1)) (by
    rw[List.pairwise_map];refine List.Pairwise.imp_of_mem ?_ h1.2
    intro a b ha hb UL;have:=h1.1 a ha;omega) (by
    intro y hy;obtain⟨z,hz,rfl⟩:=List.mem_map.1 hy;have:=h1.1 z hz;have:=hj z (by simp[hz])
    omega)
   rwa[Cx]at this
  rw[Cx]at h2;have:=hj x (by simp)
  simp only[List.length_cons];omega
 termination_by s=>s.length
 decreasing_by simp
def Qt (w:World)(B b cnt:Nat)(st:Int→List Nat):Prop:=
 ∃f,Kf w (.slice none 0 0) b cnt f∧(∀c,∃A k cap,f c=.slice A k cap∧Ba w B A k cap (F9 (st c)))∧(∀c c',c≠c'→(f c).ownBlock=none∨(f c).ownBlock≠(f c').ownBlock)
theorem Qt.start (w:World)(B:Nat):Qt (w.alloc (.map #[] 0)) B w.heap.size 0 (fun _=>[]):=
 ⟨_,Kf.made w _,fun c=>⟨none,0,0,rfl,Ba.nil _ _⟩,fun c c' _=>.inl rfl⟩
theorem Qt.setCell {B b cnt:Nat}(h:Qt w B b cnt st){p:Addr}(hb:p.block≠b)(hB:p.block<B)(u:Value):Qt (w.setCell p u) B b cnt st:=by
 obtain⟨f,h1,h2,h3⟩:=h;refine⟨f,h1.setCell hb u,fun c=>?_,h3⟩
 obtain⟨A,k,cap,e,ho⟩:=h2 c;exact⟨A,k,cap,e,Bd.setCell ho hB u⟩
theorem Qt.turned {w w2 w3:World}{B b cnt:Nat}{f:Int→Value}{c:Int}{A A':Option Addr}{k cap k' ib:Nat}{v:List Nat}
 (h1:Kf w (.slice none 0 0) b cnt f) (h2:∀c,∃A k cap,f c=.slice A k cap∧Ba w B A k cap (F9 (st c))) (h3:∀c c',c≠c'→(f c).ownBlock=none∨(f c).ownBlock≠(f c').ownBlock)
 (hf:f c=.slice A k cap) (jz:Ba w2 B A' k' ib (F9 v)) (hg:w.grownBy w2 (Ak A k cap).ownBlock)
 (gt:(Ak A' k' ib).ownBlock=(Ak A k cap).ownBlock∨∃g,w.heap.size≤g∧(Ak A' k' ib).ownBlock=some g)
 (hm:Kf w3 (.slice none 0 0) b (cnt+1) (fK f c (.slice A' k' ib))) (ej:Kf w2 (.slice none 0 0) b cnt f) (ua:w2.grownBy w3 (some b)):Qt w3 B b (cnt+1) (Mb st c v):=by
 have keep:∀{A k cap} {l:List Int},Ba w2 B A k cap l→Ba w3 B A k cap l:=fun {A k cap l} ho=>
  Bd.kept ho ua (.inr fun e=>ej.ne_own ho e.symm)
 refine⟨_,hm,fun x=>?_,fun x y fl=>?_⟩
 ·by_cases e:x=c
  ·subst e
   exact⟨A',k',ib,Ts _ _ _,by unfold Mb;rw[if_pos rfl];exact keep jz⟩
  ·obtain⟨Ax,kx,cx,ex,hx⟩:=h2 x
   refine⟨Ax,kx,cx,(Nu _ _ e).trans ex,?_⟩
   unfold Mb;rw[if_neg e];refine keep (Bd.kept hx hg ?_)
   have:=h3 x c e;rw[ex,hf]at this;exact this
 ·have old:∀z,z≠c→(fK f c (.slice A' k' ib) z).ownBlock=none∨(fK f c (.slice A' k' ib) z).ownBlock≠(Ak A' k' ib).ownBlock:=by
   intro z hz;rw[Nu _ _ hz];obtain⟨Az,kz,cz,ez,hoz⟩:=h2 z;rcases gt with ha|⟨g,cb,ha⟩
   ·rw[ha]
    have:=h3 z c hz
    rwa[hf]at this
   ·right
    rw[ha,ez];intro e;have:=(Bd.blk hoz g e).2;omega
  by_cases e:x=c
  ·subst e
   rw[Ts];have hy:=old y (fun e=>fl e.symm)
   rcases hy with hy|hy
   ·rw[hy]
    cases (Ak A' k' ib).ownBlock with
    |none=>exact .inl rfl
    |some g=>exact .inr (by simp)
   ·exact .inr (fun e=>hy e.symm)
  ·by_cases e2:y=c
   ·subst e2
    rw[Ts];exact old x e
   ·rw[Nu _ _ e,Nu _ _ e2]
    exact h3 x y fl
theorem Ws (w:World):(zeroValue 25).run prog w=.ok (.slice none 0 0) w:=by kernel_rfl
theorem uD (hl:Bj w A n c l)(wl:∀x∈l,(Lit.int .i64 x).wf=true)(hn:n≤4096):
 Calls prog 152 #[.slice A n c] w fun e w'=>∃g,e=.returned (.tuple #[.slice (some ⟨g,0,none⟩) n n,(0:Int)])∧Aq w' g 3 ((Dq l).map (Av .i64)).toArray∧w.heap.size≤g∧An w w':=by
 obtain⟨i0,hi,bm,bz,az⟩:=info_parts Cd;have eK:=@run_makeMap prog;have ab:=A6 hl.len;have f6:∀u:World,(Instr.makeSlice 25 (.int .i64 (n:Int)) (.int .i64 (n:Int))).run prog u=
  .ok (.slice (some ⟨u,0,none⟩) n n) (u.alloc (.cells (madeCells #[(0:Int)] n) 3)):=fun u=>by
  have h:=run_make (P:=prog) u 25 3 i0 (.int .i64 0) underlying25 hi bm .i64 .i64 (n:Int) (n:Int) (by omega) (Int.le_refl _) (by rw[az];omega) (by omega)
  simpa[bz,Value.cells]using h
 have ws:=(An.alloc w (.cells (madeCells #[(0:Int)] n) 3)).hsize;go_enter func152,ntmps152
 go_wp2_with fail
 go_loopw [20] (fun i wr=>∃(j cnt:Nat),j≤n∧cnt≤j∧i=.int .i64 j∧Aq wr w.heap.size 3 ((La l j).map (Av .i64)).toArray∧Qt wr (w.heap.size+2) (w.heap.size+1) cnt (Fj l j).1∧An w wr) (fun i _=>n-(intOf i).toNat)
 case atStart=>
  refine⟨0,0,by omega,by omega,rfl,?_,?_,(An.alloc _ _).to_alloc _⟩
  ·refine Aq.ext ?_ (An.alloc _ _)
   rw[iE,ab.out,←U3];exact Aq.new _ _ _
  ·have:=Qt.start (w.alloc (.cells (madeCells #[(0:Int)] n) 3)) (w.heap.size+2)
   have e0:(Fj l 0).1=fun _=>[]:=rfl
   rw[e0]
   simpa using this
 case round=>
  obtain⟨j,cnt,hj,hcnt,rfl,hb,j8,he⟩:=hrel;by_cases ae:j<n
  ·obtain⟨ad,rfl,hc⟩:=hl.at_ ae
   have cj:=he.cell (hc j ae);have c1:=X3 hb (k:=j) (by rw[Wq,ab.out];exact ae)
   have f1:=hb.frozen j;clear hc;go_wp2_with fail
   refine(cZ _ _).mono ?_
   rintro e w2 ⟨rfl,jw⟩;have ak:Aq w2 w.heap.size 3 (((La l j).set j (-1)).map (Av .i64)).toArray:=by rw[←jw];exact U8 hb j (-1)
   have ub:Qt w2 (w.heap.size+2) (w.heap.size+1) cnt (Fj l j).1:=by
    rw[←jw];exact j8.setCell (by show w.heap.size≠_;omega) (by show w.heap.size<_;omega) _
   have au:An w w2:=by rw[←jw];exact he.setCell (Aj _) _
   clear jw hb j8 he cj c1 f1;have Zv:(Lit.int .i64 (gI l j)).wf=true:=wl _ (by
    have:j<l.length:=by rw[ab.out];exact ae
    simp[gI,this])
   have AI:=bA l j;have jo:Fj l (j+1)=P5 (gI l j) j (Fj l j):=rfl;by_cases ho:D8 (gI l j)=0
   ·have e1:(D8 (gI l j)==0)=true:=by simpa using ho
    have hs:Fj l (j+1)=((Fj l j).1,El (Fj l j).2 j (-1)):=by rw[jo,Us ho]
    have ap:Aq w2 w.heap.size 3 ((La l (j+1)).map (Av .i64)).toArray:=by rw[Rl (by rw[hs])];exact ak
    have LG:Qt w2 (w.heap.size+2) (w.heap.size+1) cnt (Fj l (j+1)).1:=by rw[hs];exact ub
    clear hs jo AI ho ak ub;exact I69
   have e1:(D8 (gI l j)==0)=false:=by simpa using ho
   cases AJ:Np (gI l j)with
   |false=>
    have hs:Fj l (j+1)=(Mb (Fj l j).1 (gI l j) ((Fj l j).1 (gI l j)++[j]),El (Fj l j).2 j (-1)):=by rw[jo,Xu ho AJ]
    have ap:∀w3,Aq w3 w.heap.size 3 (((La l j).set j (-1)).map (Av .i64)).toArray→Aq w3 w.heap.size 3 ((La l (j+1)).map (Av .i64)).toArray:=fun w3 h=>by rw[Rl (by rw[hs])];exact h
    have pp:=A6 ap;obtain⟨f,m1,m2,m3⟩:=ub;obtain⟨C,k,cap,ef,ac⟩:=m2 (gI l j);have nc:=m1.get underlying269 (Ws w2) Zv;rw[ef]at nc;have pz:k≤j:=by
     have h1:=ac.ints.len;have h2:=AI.mem (gI l j);have h3:=AI.sorted (gI l j);rw[Mu]at h1;rw[←h1];exact Rj h3 (fun x hx=>(h2 x hx).1)
    have HS:=A6 hs;clear hs jo AI ho ap;go_wp2_with (at_builtin;refine C9 rfl (.tmp 43) (.tmp 45) 25 rfl w (w.heap.size+2) 3 i0 (.int .i64 0) 1 8 underlying25 hi bm bz az rfl (by decide) C k cap _ rfl ac _ rfl ?_ rfl ?_ ?_ au (by omega) ?_ ?_)
    ·rfl
    ·unfold maxLen;omega
    ·omega
    ·have:=ak.lt
     have:=m1.lt;omega
    ·intro C' ib w3 ce av gt cu
     have et:Ba w3 (w.heap.size+2) C' (k+1) ib (F9 ((Fj l j).1 (gI l j)++[j])):=by
      simpa[Ba,F9]using ce
     have m13:=m1.grown av (m1.ne_own ac);have bn:Aq w3 w.heap.size 3 (((La l j).set j (-1)).map (Av .i64)).toArray:=ak.grown av (fun e=>by
      have:=(Bd.blk ac _ e.symm).1;omega)
     obtain⟨w4,de,m14,jj,ik⟩:=m13.put underlying269 (by unfold maxLen;omega) (gI l j) (.slice C' (k+1) ib) Zv cu (by omega)
     have xe:=Qt.turned (c:=gI l j) m1 m2 m3 ef et av gt m14 m13 jj;have cg:=pp.out _ (bn.grown jj (by simp))
     have FK:Qt w4 (w.heap.size+2) (w.heap.size+1) (cnt+1) (Fj l (j+1)).1:=by rw[HS.out];exact xe
     clear nc m1 m2 m3 ef ac ce av gt et m13 m14 jj xe ak bn au cu;go_wp2_with fail
     go_roundw
     case rel=>exact⟨j+1,cnt+1,by omega,by omega,by go_num,cg,FK,ik⟩
     case measure=>simp[intOf];omega
   |true=>
    have ke:=J3x (gI l j);have UM:(Lit.int .i64 (D8 (gI l j))).wf=true:=kK (by omega) (by omega)
    cases d7:((Fj l j).1 (D8 (gI l j))).getLast? with
    |none=>
     have qe:=List.getLast?_eq_none_iff.1 d7;have hs:Fj l (j+1)=((Fj l j).1,El (Fj l j).2 j (-1)):=by rw[jo,Xv ho AJ qe]
     have ap:Aq w2 w.heap.size 3 ((La l (j+1)).map (Av .i64)).toArray:=by rw[Rl (by rw[hs])];exact ak
     have LG:Qt w2 (w.heap.size+2) (w.heap.size+1) cnt (Fj l (j+1)).1:=by rw[hs];exact ub
     obtain⟨f,m1,m2,m3⟩:=ub;obtain⟨C,k,cap,ef,ac⟩:=m2 (D8 (gI l j));have nc:=m1.get underlying269 (Ws w2) UM;rw[ef]at nc;have il:k=0:=by
      have:=ac.ints.len;rw[qe,Mu]at this
      simpa using this.symm
     subst il;clear hs jo AI ho ak qe d7 m1 m2 m3 ef ac;exact I69
    |some kk=>
     have hs:Fj l (j+1)=(Mb (Fj l j).1 (D8 (gI l j)) ((Fj l j).1 (D8 (gI l j))).dropLast,El (El (Fj l j).2 j kk) kk j):=by rw[jo,Zu ho AJ d7]
     have JE:=(AI.pop ho AJ d7).2;obtain⟨f,m1,m2,m3⟩:=ub;obtain⟨C,k,cap,ef,ac⟩:=m2 (D8 (gI l j));have nc:=m1.get underlying269 (Ws w2) UM;rw[ef]at nc;have se:((Fj l j).1 (D8 (gI l j))).length=k:=by have:=ac.ints.len;rwa[Mu]at this
     have fq:=R8 d7;have il:0<k:=by rw[←se,←fq];simp
     have pz:k≤4096:=by
      have h3:=Rj (AI.sorted (D8 (gI l j))) (fun x hx=>(AI.mem _ x hx).1)
      omega
     obtain⟨ca,rfl,kh⟩:=ac.ints.at_ il;have Z2:=ac.ints.ncap;have cl:w2.cell? (ca.add (k-1))=some (.int .i64 kk):=by
      rw[kh (k-1) (by omega)]
      have e1:k-1=((Fj l j).1 (D8 (gI l j))).dropLast.length:=by rw[List.length_dropLast,se]
      have e2:gI (F9 ((Fj l j).1 (D8 (gI l j)))) (k-1)=kk:=by
       rw[←fq,e1];unfold F9 gI;simp
      rw[e2]
     obtain⟨w3,de,m13,ua,cu⟩:=m1.put underlying269 (by unfold maxLen;omega) (D8 (gI l j)) (.slice (some ca) (k-1) cap) UM au (by omega)
     have dh:Ba w2 (w.heap.size+2) (some ca) (k-1) cap (F9 ((Fj l j).1 (D8 (gI l j))).dropLast):=by
      have h1:=Bd.pop ac (k:=k-1) (by omega) il
      have e3:F9 ((Fj l j).1 (D8 (gI l j))).dropLast=(F9 ((Fj l j).1 (D8 (gI l j)))).take (k-1):=by
       unfold F9;rw[←List.map_take,List.dropLast_eq_take,se]
      unfold Ba;rw[e3,List.map_take];exact h1
     have xe:=Qt.turned (c:=D8 (gI l j)) m1 m2 m3 ef dh (World.grownBy.refl w2 _) (.inl rfl) m13 m1 ua;have ap:=ak.grown ua (by simp)
     have x1:=X3 ap (k:=j) (by rw[List.length_set,Wq,ab.out];exact ae)
     have f1:=ap.frozen j;have bn:=U8 ap j kk;have x2:=X3 ap (k:=kk) (by rw[List.length_set,Wq,ab.out];omega)
     have f2:=ap.frozen kk;have cg:=U8 bn kk j;rw[←tS JE (by rw[hs])]at cg
     have FK:Qt ((w3.setCell ⟨w,j,none⟩ kk).setCell ⟨w,kk,none⟩ j) (w.heap.size+2) (w.heap.size+1) (cnt+1) (Fj l (j+1)).1:=by
      rw[hs];exact(xe.setCell (by show w.heap.size≠_;omega) (by show w.heap.size<_;omega) _).setCell (by show w.heap.size≠_;omega) (by show w.heap.size<_;omega) _
     have ft:=(cu.setCell (p:=⟨w,j,none⟩) (Aj _) (.int .i64 kk)).setCell (p:=⟨w,kk,none⟩) (Aj _) (.int .i64 j);have ai:¬kk=j:=by omega
     have FL:¬j=kk:=by omega
     clear hs jo AI ho ak d7 m1 m2 m3 m13 ef ac dh xe ap bn kh fq se ua;go_wp2_with fail
     go_roundw
     case rel=>exact⟨j+1,cnt+1,by omega,by omega,by go_num,cg,FK,ft⟩
     case measure=>simp[intOf];omega
  ·obtain rfl:j=n:=by omega
   go_wp2_with fail
   go_ret2
   exact⟨_,rfl,by rw[←tT,ab.out];exact hb,Aj _,he⟩
theorem Xi (hl:Bj w A n c l)(wl:∀x∈l,(Lit.int .i64 x).wf=true)(hn:n≤4096):
 Calls prog 152 #[.slice A n c] w fun e w'=>∃B,e=.returned (.tuple #[.slice B n n,(0:Int)])∧Bj w' B n n (Dq l)∧An w w':=
 (uD hl wl hn).mono fun e w' ⟨g,h1,h2,h3,h4⟩=>⟨_,h1,h2.ints (by rw[iH,hl.len]) (by unfold maxLen;omega),h4⟩
theorem Q8 {i:Nat}(hi:i<l.length):gI (Dq l) i = -1∨∃k:Nat,gI (Dq l) i=k∧k<l.length∧gI (Dq l) k=i∧k≠i∧D8 (gI l i)=gI l k∧Np (gI l i)=decide (k<i)∧D8 (gI l i)≠0:=by
 rcases(bA l l.length).part i hi with h|⟨m,h1,h2,h3⟩
 ·exact .inl (by rw[Tx hi];exact h)
 ·exact .inr ⟨m,by rw[Tx hi];exact h1,h2,by rw[Tx h2];exact h3.1,h3.2⟩
def Yp (l:List Int)(k:Nat)(o:Int)(i b:Nat):Prop:=
 i≤k∧i<l.length∧gI l i=o∧gI (Dq l) i=b∧k≤b∧b<l.length∧∀j,i<j→j≤k→j<l.length→gI l j=o→gI (Dq l) j<k
def Vd (l:List Int)(k:Nat)(o:Int):Prop:=∀j,j≤k→j<l.length→gI l j=o→gI (Dq l) j<k
theorem fA {k:Nat}{o:Int}(hl:Bj w A n c l)(wl:∀x∈l,(Lit.int .i64 x).wf=true)(hn:n≤4096)(hk:k=0∨k<n):
 Calls prog 118 #[.slice A n c,.int .i64 k,.bool false,.int .i64 o] w fun e w'=>((∃i b:Nat,Yp l k o i b∧e=.returned (.tuple #[.agg #[.int .i64 ((i:Int)+1),b],(0:Int)]))∨
  (Vd l k o∧e=.returned (.tuple #[.agg #[(0:Int),(0:Int)],(6:Int)])))∧An w w':=by
 have N1:=trivial;exact K14
theorem iG {k:Nat}{g:Int}(hl:Bj w A n c l)(wl:∀x∈l,(Lit.int .i64 x).wf=true)(hn:n≤4096)(hk:k≤n):
 Calls prog 173 #[.agg #[.slice A n c,k,g,op]] w fun e w'=>((∃i m:Nat,Vr l k i m∧e=.returned (.tuple #[.agg #[m,true],(0:Int)]))∨
  (noP l k∧e=.returned (.tuple #[.agg #[(0:Int),false],(5:Int)])))∧An w w':=by
 have aw:=hl.ncap;have aq:=hl.nmax;have ab:=A6 hl.len;unfold maxLen at aq;have am:An w ((w.alloc (.cells #[.slice A n c,k,g,op] 222)).alloc (.cells #[(0:Int),false] 224)):=(An.alloc _ _).to_alloc _;have al:=(Aq.new w 222 #[.slice A n c,.int .i64 k,.int .i64 g,.bool op]).ext (An.alloc _ (.cells #[(0:Int),false] 224));have ak:Aq ((w.alloc (.cells #[.slice A n c,k,g,op] 222)).alloc (.cells #[(0:Int),false] 224)) (w.heap.size+1) 224 #[.int .i64 0,.bool false]:=by
  simpa using Aq.new (w.alloc (.cells #[.slice A n c,k,g,op] 222)) 224 #[.int .i64 0,.bool false]
 have HP:=A6 (Xi (hl.ext am) wl hn);clear wl;go_enter func173,ntmps173
 go_wp2_with fail
 refine HP.out.mono ?_
 rintro e w1 ⟨B,rfl,hB,aj⟩;have bu:=al.ext aj;have bf:=ak.ext aj;have he:=am.trans aj;have gq:=hl.ext he;have c0:=bu.cell 0;have c1:=bu.cell 1;simp only[Ah,Af,Ag]at c0 c1;clear HP aj hl am al ak bu;have HF:Hid (∀q:Nat,q<n→¬gI (Dq l) q<0→∃b:Nat,gI (Dq l) q=b∧b<l.length):=A6 (fun q hq h=>by
  rcases Q8 (l:=l) (i:=q) (by rw[ab.out];exact hq)with h1|⟨b,h1,h2,_⟩
  ·omega
  ·exact⟨b,h1,h2⟩)
 have f0:=bf.frozen 0;have f1:=bf.frozen 1;have c4:=bf.cell 0;have c5:=bf.cell 1;simp only[Ah,Af,Ag]at c4 c5;have hbF:∀(x:Int) (y:Bool),Aq ((w1.setCell ⟨w.heap.size+1,0,none⟩ x).setCell ⟨w.heap.size+1,1,none⟩ (.bool y)) (w.heap.size+1) 224 #[.int .i64 x,.bool y]:=fun x y=>by
  simpa using(bf.set_ 0 (.int .i64 x)).set_ 1 (.bool y)
 have JG:=A6 hbF;have ix:∀(x:Int) (y:Bool),An w ((w1.setCell ⟨w.heap.size+1,0,none⟩ x).setCell ⟨w.heap.size+1,1,none⟩ (.bool y)):=fun x y=>(he.setCell (by simp) _).setCell (by simp) _
 have LL:=A6 ix;clear hbF ix bf;go_wp2_with fail
 go_loopw [6] (fun v wr=>∃j:Nat,k≤j∧j≤n∧v=.int .i64 j∧Hid (∀x,k≤x→x<j→D8 (gI l x)=0)∧wr=w1) (fun v _=>n-(intOf v).toNat)
 case atStart=>exact⟨k,Nat.le_refl _,hk,rfl,fun x h1 h2=>absurd h2 (by omega),rfl⟩
 case round=>
  obtain⟨j,um,BM,rfl,ax,rfl⟩:=hrel;by_cases ae:j<n
  ·obtain⟨a1,rfl,bh⟩:=gq.at_ ae
   obtain⟨a2,rfl,fo⟩:=hB.at_ ae;have d1:=bh j ae;have d2:=fo j ae;clear bh fo;go_wp2_with fail
   refine(bJ _ _).mono ?_
   rintro e w2 ⟨rfl,rfl⟩;by_cases hz:D8 (gI l j)=0
   ·have b1:(D8 (gI l j) !=0)=false:=by simpa using hz
    have HZ:=A6 hz;clear hz;go_wp2_with fail
    exact⟨⟨j+1,by omega,by omega,by go_num,fun x h1 h2=>by
     rcases Nat.lt_or_ge x j with h3|h3
     ·exact ax.out x h1 h3
     ·obtain rfl:x=j:=by omega
      exact HZ.out,trivial⟩,by simp[intOf]<;>omega⟩
   ·have b1:(D8 (gI l j) !=0)=true:=by simpa using hz
    have HZ:=A6 hz;clear hz;by_cases hp:gI (Dq l) j<0
    ·have HN:Hid (noP l k):=A6 (fun i h1 h2 h3 h4=>by
      rcases Nat.lt_trichotomy i j with h5|h5|h5
      ·exact absurd (ax.out i h1 h5) h3
      ·subst h5;exact hp
      ·exact absurd (h4 j um h5) HZ.out)
     exact I22
    ·obtain⟨m,dm,ej⟩:=HF.out j ae (by omega)
     have HM:=A6 dm;rw[dm]at d2 hp;clear dm hp;go_wp2_with fail
     have bi:=JG.out m true;have c6:=bi.cell 0;have c7:=bi.cell 1;simp only[Ah,Af,Ag]at c6 c7;clear c4 c5 f0 f1 c0 c1 bi;refine bodyPost_ret (by simp[results,results173,go_sem,c6,c7];try rfl) rfl ?_
     exact⟨.inl ⟨j,m,⟨um,by rw[ab.out];exact ae,HZ.out,ax.out,HM.out,ej⟩,rfl⟩,LL.out _ _⟩
  ·have HN:Hid (noP l k):=A6 (fun i h1 h2 h3 h4=>absurd (ax.out i h1 (by rw[ab.out]at h2;omega)) h3)
   exact I22
def Ef:Option (Nat×Bool)→Ending
 |some (a,i)=>.returned (.tuple #[.agg #[a,i],(0:Int)])
 |none=>.returned (.tuple #[.agg #[(0:Int),false],(5:Int)])
def Rs:Option Nat→Ending
 |some a=>.returned (.tuple #[a,(0:Int)])
 |none=>.returned (.tuple #[(0:Int),(5:Int)])
theorem jG {ch:Int}(hl:Bj w A n c l)(hn:n≤4096)(hk:k≤n)(cb:1≤g)(bj:g≤4096):
 Calls prog 167 #[.agg #[.slice A n c,k,g,op],.int .i64 ch,.int .i64 1] w fun e w'=>e=Rs (Jp l ch (n-(k+1)) (k+1) g)∧An w w':=by
 have aw:=hl.ncap;have aq:=hl.nmax;unfold maxLen at aq;have am:=An.alloc w (.cells #[.slice A n c,k,g,op] 222);have a9:=Aq.new w 222 #[.slice A n c,.int .i64 k,.int .i64 g,.bool op];have gq:=hl.ext am;go_enter func167,ntmps167
 go_wp2_with fail
 go_loopw [8,9] (fun v i wr=>∃m j:Nat,1≤m∧m≤g∧k+1≤j∧j≤n+1∧v=.int .i64 m∧i=.int .i64 j∧Hid (Jp l ch (n-j) j m=Jp l ch (n-(k+1)) (k+1) g)∧wr=w.alloc (.cells #[.slice A n c,k,g,op] 222)) (fun _ i _=>n+1-(intOf i).toNat)
 case atStart=>exact⟨g,k+1,cb,Aj _,Aj _,by omega,rfl,by go_num,rfl,rfl⟩
 case round=>
  obtain⟨m,j,h1,h2,h3,h4,rfl,rfl,HF,rfl⟩:=hrel;have c0:=a9.cell 0;simp only[Ah,Af,Ag]at c0;by_cases ae:j<n
  ·obtain⟨a1,rfl,bh⟩:=gq.at_ ae
   have d1:=bh j ae;have HS:Hid (Jp l ch (n-j) j m=if gI l j=ch then(if m=1 then some j else Jp l ch (n-(j+1)) (j+1) (m-1))else Jp l ch (n-(j+1)) (j+1) m):=by
    show Jp l ch (n-j) j m=_
    rw[show n-j=(n-(j+1))+1 by omega];rfl
   clear bh;by_cases hz:gI l j=ch
   ·have b1:(gI l j==ch)=true:=by simpa using hz
    have HZ:=A6 hz;clear hz;by_cases hm:m=1
    ·exact I105
    ·have b2:((m:Int)-1==0)=false:=by simp;omega
     go_wp2_with fail
     exact⟨⟨m-1,j+1,by omega,by omega,by omega,by omega,by congr 1;omega,by go_num,by
      show _=_
      rw[←HF.out,HS.out,if_pos HZ.out,if_neg hm],trivial⟩,by simp[intOf]<;>omega⟩
   ·have b1:(gI l j==ch)=false:=by simpa using hz
    have HZ:=A6 hz;clear hz;go_wp2_with fail
    exact⟨⟨m,j+1,by omega,by omega,by omega,by omega,by go_num,by go_num,by
     show _=_
     rw[←HF.out,HS.out,if_neg HZ.out],trivial⟩,by simp[intOf]<;>omega⟩
  ·have HN:Hid (Jp l ch (n-j) j m=none):=by
    show _=none
    rw[show n-j=0 by omega];rfl
   go_wp2_with fail
   go_ret2
   exact⟨by rw[←HF.out,HN.out];rfl,am⟩
theorem pE {ch:Int}(hl:Bj w A n c l)(hn:n≤4096)(hk:k≤n)(cb:1≤g)(bj:g≤4096):
 Calls prog 167 #[.agg #[.slice A n c,k,g,op],.int .i64 ch,.int .i64 (-1)] w fun e w'=>e=Rs (Kr l ch k g)∧An w w':=by
 have aw:=hl.ncap;have aq:=hl.nmax;unfold maxLen at aq;have am:=An.alloc w (.cells #[.slice A n c,k,g,op] 222);have a9:=Aq.new w 222 #[.slice A n c,.int .i64 k,.int .i64 g,.bool op];have gq:=hl.ext am;go_enter func167,ntmps167
 go_wp2_with fail
 go_loopw [8,9] (fun v i wr=>∃m j:Nat,1≤m∧m≤g∧j≤k∧v=.int .i64 m∧i=.int .i64 ((j:Int)-1)∧Hid (Kr l ch j m=Kr l ch k g)∧wr=w.alloc (.cells #[.slice A n c,k,g,op] 222)) (fun _ i _=>(intOf i+1).toNat)
 case atStart=>exact⟨g,k,cb,Aj _,Aj _,rfl,by go_num,rfl,rfl⟩
 case round=>
  obtain⟨m,j,h1,h2,h3,rfl,rfl,HF,rfl⟩:=hrel;have c0:=a9.cell 0;simp only[Ah,Af,Ag]at c0;rcases j with _|j
  ·go_wp2_with fail
   go_ret2
   exact⟨by rw[←HF.out];rfl,am⟩
  ·rw[show((j+1:Nat):Int)-1=(j:Int)by omega]
   have ae:j<n:=by omega
   obtain⟨a1,rfl,bh⟩:=gq.at_ ae;have d1:=bh j ae;have HS:Hid (Kr l ch (j+1) m=if gI l j=ch then(if m=1 then some j else Kr l ch j (m-1))else Kr l ch j m):=rfl;clear bh;by_cases hz:gI l j=ch
   ·have b1:(gI l j==ch)=true:=by simpa using hz
    have HZ:=A6 hz;clear hz;by_cases hm:m=1
    ·exact I105
    ·have b2:((m:Int)-1==0)=false:=by simp;omega
     go_wp2_with fail
     exact⟨⟨m-1,j,by omega,by omega,by omega,by congr 1;omega,by go_num,by
      show _=_
      rw[←HF.out,HS.out,if_pos HZ.out,if_neg hm],trivial⟩,by simp[intOf]<;>omega⟩
   ·have b1:(gI l j==ch)=false:=by simpa using hz
    have HZ:=A6 hz;clear hz;go_wp2_with fail
    exact⟨⟨m,j,by omega,by omega,by omega,by go_num,by go_num,by
     show _=_
     rw[←HF.out,HS.out,if_neg HZ.out],trivial⟩,by simp[intOf]<;>omega⟩
theorem Dk {w W:World}{q T:Nat}{x0 y0:Value}(hb:Aq W q T #[x0,y0])(he:An w W)(hq:w.heap.size≤q):
 (∀x y:Value,((W.setCell ⟨q,0,none⟩ x).setCell ⟨q,1,none⟩ y).cell? ⟨q,0,none⟩=some x)∧(∀x y:Value,((W.setCell ⟨q,0,none⟩ x).setCell ⟨q,1,none⟩ y).cell? ⟨q,1,none⟩=some y)∧
 (∀x y:Value,An w ((W.setCell ⟨q,0,none⟩ x).setCell ⟨q,1,none⟩ y))∧(∀x:Value,An w (W.setCell ⟨q,0,none⟩ x))∧(∀y:Value,An w (W.setCell ⟨q,1,none⟩ y)):=by
 refine⟨fun x y=>?_,fun x y=>?_,fun x y=>(he.setCell hq _).setCell hq _,fun x=>he.setCell hq _,fun x=>he.setCell hq _⟩
 ·have:=((hb.set_ 0 x).set_ 1 y).cell 0
  simpa using this
 ·have:=((hb.set_ 0 x).set_ 1 y).cell 1
  simpa using this
theorem Za (w:World)(v0 v1 v2 v3:Value):Aq ((w.alloc (.cells #[v0,v1,v2,v3] 222)).alloc (.cells #[(0:Int),false] 224)) (w.heap.size+1) 224 #[.int .i64 0,.bool false]:=by
 simpa using Aq.new (w.alloc (.cells #[v0,v1,v2,v3] 222)) 224 #[.int .i64 0,.bool false]
theorem vN (w:World)(v0 v1 v2 v3:Value):Aq ((w.alloc (.cells #[v0,v1,v2,v3] 222)).alloc (.cells #[(0:Int),false] 224)) w.heap.size 222 #[v0,v1,v2,v3]:=
 (Aq.new w _ _).ext (An.alloc _ _)
theorem Qj {x:Int}{a:Nat}{i:Bool}(h:x=a):Ending.returned (.tuple #[.agg #[x,i],(0:Int)])=Ef (some (a,i)):=by rw[h];rfl
theorem Ty (a:Nat)(i:Bool):Ef (some (a,i))=.returned (.tuple #[.agg #[a,i],(0:Int)]):=rfl
theorem Nk:Ef none=.returned (.tuple #[.agg #[(0:Int),false],(5:Int)]):=rfl
theorem bH (aw:n≤c)(aq:c≤maxLen)(hn:n≤4096)(hk:k≤n)(cb:1≤g)(bj:g≤4096):
 Calls prog 168 #[.agg #[.slice A n c,k,g,op]] w fun e w'=>e=Ef (if(if op=true then n else n-1)≤k then none else some (min (if op=true then n else n-1) (k+g),false))∧An w w':=by
 unfold maxLen at aq;have am:An w ((w.alloc (.cells #[.slice A n c,k,g,op] 222)).alloc (.cells #[(0:Int),false] 224)):=(An.alloc _ _).to_alloc _;have ak:=Za w (.slice A n c) (.int .i64 k) (.int .i64 g) (.bool op);have HB:=A6 ak;have c0:=ak.cell 0;have c1:=ak.cell 1;have f0:=ak.frozen 0;have f1:=ak.frozen 1;simp only[Ah,Af,Ag]at c0 c1;clear ak;cases op
 ·have N0:=trivial;exact Td
 ·have N1:=trivial;exact Td
theorem Wb {f:FuncId}{s:Nat→Nat}(hl:Bj w A n c l)(hn:n≤4096)(hk:k≤n)(bj:g≤4096)
 (XD:Hid (∀(args:Array Value) (w1:World),Sem.run prog (callFunc f args) w1=.ok (.enter f args) w1)) (hs:Hid (∀j,j≤n→s j≤n)) (H:Hid (∀(w1:World) (j:Nat),j≤n→Bj w1 A n c l→Calls prog f #[.slice A n c,j,big] w1 fun e w'=>e=.returned (.tuple #[.int .i64 (s j),(0:Int)])∧An w1 w')):
 Calls prog 170 #[.agg #[.slice A n c,k,g,op],.func (.func f) #[] #[],.bool big] w fun e w'=>e=.returned (.int .i64 (Rb s g k))∧An w w':=by
 have aw:=hl.ncap;have aq:=hl.nmax;unfold maxLen at aq;have am:=An.alloc w (.cells #[.slice A n c,k,g,op] 222);have a9:=Aq.new w 222 #[.slice A n c,.int .i64 k,.int .i64 g,.bool op];go_enter func170,ntmps170
 go_wp2_with fail
 go_loopw [7,12] (fun v i wr=>∃j m:Nat,j≤g∧m≤n∧i=.int .i64 j∧v=.int .i64 m∧Hid (m=Rb s j k)∧An (w.alloc (.cells #[.slice A n c,k,g,op] 222)) wr) (fun _ i _=>g-(intOf i).toNat)
 case atStart=>exact⟨0,k,by omega,hk,rfl,rfl,rfl,An.refl _⟩
 case round=>
  obtain⟨j,m,h1,h2,rfl,rfl,HM,he⟩:=hrel;have c0:=(a9.ext he).cell 0;simp only[Ah,Af,Ag]at c0;by_cases ae:j<g
  ·have gq:=hl.ext (am.trans he)
   go_wp2_with fail
   rw[XD.out];refine(H.out _ m h2 gq).mono ?_
   rintro e w1 ⟨rfl,aj⟩;have HS:Hid (s m≤n∧s m=Rb s (j+1) k):=A6 ⟨hs.out m h2,by rw[HM.out];rfl⟩
   clear a9 c0;generalize s m=m' at*;have h3:=HS.out.1;go_wp2_with fail
   exact⟨⟨j+1,m',by omega,h3,by go_num,rfl,A6 HS.out.2,he.trans aj⟩,by simp[intOf]<;>omega⟩
  ·go_wp2_with fail
   go_ret
   refine⟨Ju ?_,am.trans he⟩
   have:j=g:=by omega
   rw[HM.out,this]
theorem vV (hl:Bj w A n c l)(hn:n≤4096):
 Calls prog 169 #[.agg #[.slice A n c,k,g,op]] w fun e w'=>e=.returned (.int .i64 (Gi l))∧An w w':=by
 have aw:=hl.ncap;have aq:=hl.nmax;have ab:=A6 hl.len;unfold maxLen at aq;have am:=An.alloc w (.cells #[.slice A n c,k,g,op] 222);have a9:=Aq.new w 222 #[.slice A n c,.int .i64 k,.int .i64 g,.bool op];have gq:=hl.ext am;have c0:=a9.cell 0;simp only[Ah,Af,Ag]at c0;go_enter func169,ntmps169
 go_wp2_with fail
 go_loopw [8] (fun i wr=>∃j:Nat,j≤n∧i=.int .i64 j∧Hid (∀x:Nat,0≤x→x<j→Bb l true x=0)∧wr=w.alloc (.cells #[.slice A n c,k,g,op] 222)) (fun i _=>n-(intOf i).toNat)
 case atStart=>exact⟨0,by omega,rfl,fun x h1 h2=>absurd h2 (by omega),rfl⟩
 case round=>
  obtain⟨j,h1,rfl,HA,rfl⟩:=hrel;by_cases ae:j<n
  ·obtain⟨a1,rfl,bh⟩:=gq.at_ ae
   have d1:=bh j ae;have HK:Hid (Bb l true j=Bk (gI l j) true):=A6 (Hd (by rw[ab.out];omega))
   clear bh;go_wp2_with fail
   refine(Vw _ _ _).mono ?_
   rintro e w1 ⟨rfl,rfl⟩;by_cases hz:Bk (gI l j) true=0
   ·have b1:(Bk (gI l j) true !=0)=false:=by simpa using hz
    have HZ:=A6 hz;clear hz;go_wp2_with fail
    exact⟨⟨j+1,by omega,by go_num,fun x h1 h2=>by
     rcases Nat.lt_or_ge x j with h3|h3
     ·exact HA.out x h1 h3
     ·obtain rfl:x=j:=by omega
      rw[HK.out,HZ.out],trivial⟩,by simp[intOf]<;>omega⟩
   ·have b1:(Bk (gI l j) true !=0)=true:=by simpa using hz
    have HZ:=A6 hz;clear hz;go_wp2_with fail
    go_ret
    refine⟨Ju ?_,am⟩
    have:Fi l true 0 0=j:=Sc (by omega) (by omega) HA.out (by rw[HK.out];exact HZ.out)
    unfold Gi;rw[this,if_pos (by rw[ab.out];exact ae)]
  ·have HF:Hid (Gi l=n-1):=by
    show Gi l=n-1
    have:Fi l true 0 0=n:=Sc (by omega) (by omega) (fun x h1 h2=>HA.out x h1 (by omega)) (by rw[M7 (by rw[ab.out];omega)];omega)
    unfold Gi;rw[this,if_neg (by rw[ab.out];omega),ab.out]
   go_wp2_with fail
   all_goals
    go_ret
    refine⟨Ju ?_,am⟩
    rw[HF.out];omega
theorem cE {k g X:Nat}(aw:n≤c)(aq:c≤maxLen)(hn:n≤4096)(hk:k≤n)(h0:0<n)(hX:X≤n)
 (H:Hid (∀w1:World,An w w1→Calls prog 170 #[.agg #[.slice A n c,k,g,op],.func (.func 180) #[] #[],.bool big] w1 fun e w'=>e=.returned (.int .i64 X)∧An w1 w')):
 Calls prog 171 #[.agg #[.slice A n c,k,g,op],.bool big] w fun e w'=>e=Ef (if op=true then some (X,false)else if min X (n-1)=k then none else some (min X (n-1),false))∧An w w':=by
 have N31:=trivial;exact Qo
theorem lL {k g X:Nat}(aw:n≤c)(aq:c≤maxLen)(hn:n≤4096)(hk:k≤n)(h0:0<n)(hX:X≤n)
 (H:Hid (∀w1:World,An w w1→Calls prog 170 #[.agg #[.slice A n c,k,g,op],.func (.func 181) #[] #[],.bool big] w1 fun e w'=>e=.returned (.int .i64 X)∧An w1 w')):
 Calls prog 172 #[.agg #[.slice A n c,k,g,op],.bool big] w fun e w'=>e=Ef (if op=false∧X=k then none else some (X,true))∧An w w':=by
 have N32:=trivial;exact Qo
theorem nY (a:Nat):Rs (some a)=.returned (.tuple #[a,(0:Int)]):=rfl
theorem nZ:Rs none=.returned (.tuple #[(0:Int),(5:Int)]):=rfl
theorem J5u {l:List Int}(aw:n≤c)(aq:c≤maxLen)(hn:n≤4096)(hk:k≤n)(cb:1≤g)(bj:g≤4096)(h0:k=0):
 Calls prog 146 #[.agg #[.slice A n c,k,g,op],.int .i64 104] w fun e w'=>e=Ef (none)∧An w w':=by
 have N0:=trivial;exact Qo
theorem J5t {l:List Int}(aw:n≤c)(aq:c≤maxLen)(hn:n≤4096)(hk:k≤n)(cb:1≤g)(bj:g≤4096)(h0:0<k):
 Calls prog 146 #[.agg #[.slice A n c,k,g,op],.int .i64 104] w fun e w'=>e=Ef (some (k-g,false))∧An w w':=by
 have N1:=trivial;exact Qo
theorem J6v {l:List Int}(aw:n≤c)(aq:c≤maxLen)(hn:n≤4096)(hk:k≤n)(cb:1≤g)(bj:g≤4096):
 Calls prog 146 #[.agg #[.slice A n c,k,g,op],.int .i64 48] w fun e w'=>e=Ef (some (0,false))∧An w w':=by
 have N2:=trivial;exact Qo
theorem J3s {l:List Int}(aw:n≤c)(aq:c≤maxLen)(hn:n≤4096)(hk:k≤n)(cb:1≤g)(bj:g≤4096)(h0:n=0):
 Calls prog 146 #[.agg #[.slice A n c,k,g,op],.int .i64 36] w fun e w'=>e=Ef (none)∧An w w':=by
 have N3:=trivial;exact Qo
theorem J6b {l:List Int}(aw:n≤c)(aq:c≤maxLen)(hn:n≤4096)(hk:k≤n)(cb:1≤g)(bj:g≤4096)(h0:0<n):
 Calls prog 146 #[.agg #[.slice A n c,k,g,op],.int .i64 36] w fun e w'=>e=Ef (some (n-1,true))∧An w w':=by
 have N4:=trivial;exact Qo
theorem yY {l:List Int}(aw:n≤c)(aq:c≤maxLen)(hn:n≤4096)(hk:k≤n)(cb:1≤g)(bj:g≤4096)(h0:n=0):
 Calls prog 146 #[.agg #[.slice A n c,k,g,op],.int .i64 124] w fun e w'=>e=Ef (none)∧An w w':=by
 have N5:=trivial;exact Qo
theorem J3t {l:List Int}(aw:n≤c)(aq:c≤maxLen)(hn:n≤4096)(hk:k≤n)(cb:1≤g)(bj:g≤4096)(h0:0<n):
 Calls prog 146 #[.agg #[.slice A n c,k,g,op],.int .i64 124] w fun e w'=>e=Ef (some (min g n-1,false))∧An w w':=by
 have N6:=trivial;exact Qo
theorem yZ {l:List Int}(aw:n≤c)(aq:c≤maxLen)(hn:n≤4096)(hk:k≤n)(cb:1≤g)(bj:g≤4096)(h0:n=0):
 Calls prog 146 #[.agg #[.slice A n c,k,g,op],.int .i64 119] w fun e w'=>e=Ef (none)∧An w w':=by
 have N7:=trivial;exact Qo
theorem J3o {l:List Int}(aw:n≤c)(aq:c≤maxLen)(hn:n≤4096)(hk:k≤n)(cb:1≤g)(bj:g≤4096)(h0:n=0):
 Calls prog 146 #[.agg #[.slice A n c,k,g,op],.int .i64 87] w fun e w'=>e=Ef (none)∧An w w':=by
 have N8:=trivial;exact Qo
theorem zA {l:List Int}(aw:n≤c)(aq:c≤maxLen)(hn:n≤4096)(hk:k≤n)(cb:1≤g)(bj:g≤4096)(h0:n=0):
 Calls prog 146 #[.agg #[.slice A n c,k,g,op],.int .i64 101] w fun e w'=>e=Ef (none)∧An w w':=by
 have N9:=trivial;exact Qo
theorem J3p {l:List Int}(aw:n≤c)(aq:c≤maxLen)(hn:n≤4096)(hk:k≤n)(cb:1≤g)(bj:g≤4096)(h0:n=0):
 Calls prog 146 #[.agg #[.slice A n c,k,g,op],.int .i64 69] w fun e w'=>e=Ef (none)∧An w w':=by
 have N10:=trivial;exact Qo
theorem J3r {l:List Int}(aw:n≤c)(aq:c≤maxLen)(hn:n≤4096)(hk:k≤n)(cb:1≤g)(bj:g≤4096)(h0:n=0):
 Calls prog 146 #[.agg #[.slice A n c,k,g,op],.int .i64 37] w fun e w'=>e=Ef (none)∧An w w':=by
 have N11:=trivial;exact Qo
theorem J5w {l:List Int}(aw:n≤c)(aq:c≤maxLen)(hn:n≤4096)(hk:k≤n)(cb:1≤g)(bj:g≤4096)(H:Hid (∀w1:World,An w w1→Calls prog 169 #[.agg #[.slice A n c,k,g,op]] w1 fun e w'=>e=.returned (.int .i64 X)∧An w1 w')):
 Calls prog 146 #[.agg #[.slice A n c,k,g,op],.int .i64 94] w fun e w'=>e=Ef (some (X,false))∧An w w':=by
 have N12:=trivial;exact Qo
theorem J3n {l:List Int}(aw:n≤c)(aq:c≤maxLen)(hn:n≤4096)(hk:k≤n)(cb:1≤g)(bj:g≤4096)(h0:k=0):
 Calls prog 146 #[.agg #[.slice A n c,k,g,op],.int .i64 98] w fun e w'=>e=Ef (none)∧An w w':=by
 have N13:=trivial;exact Qo
theorem J5v {l:List Int}(aw:n≤c)(aq:c≤maxLen)(hn:n≤4096)(hk:k≤n)(cb:1≤g)(bj:g≤4096)(h0:0<k)(H:Hid (∀w1:World,An w w1→Calls prog 170 #[.agg #[.slice A n c,k,g,op],.func (.func 133) #[] #[],.bool false] w1 fun e w'=>e=.returned (.int .i64 X)∧An w1 w')):
 Calls prog 146 #[.agg #[.slice A n c,k,g,op],.int .i64 98] w fun e w'=>e=Ef (some (X,false))∧An w w':=by
 have N14:=trivial;exact Qo
theorem J3q {l:List Int}(aw:n≤c)(aq:c≤maxLen)(hn:n≤4096)(hk:k≤n)(cb:1≤g)(bj:g≤4096)(h0:k=0):
 Calls prog 146 #[.agg #[.slice A n c,k,g,op],.int .i64 66] w fun e w'=>e=Ef (none)∧An w w':=by
 have N15:=trivial;exact Qo
theorem J5z {l:List Int}(aw:n≤c)(aq:c≤maxLen)(hn:n≤4096)(hk:k≤n)(cb:1≤g)(bj:g≤4096)(h0:0<k)(H:Hid (∀w1:World,An w w1→Calls prog 170 #[.agg #[.slice A n c,k,g,op],.func (.func 133) #[] #[],.bool true] w1 fun e w'=>e=.returned (.int .i64 X)∧An w1 w')):
 Calls prog 146 #[.agg #[.slice A n c,k,g,op],.int .i64 66] w fun e w'=>e=Ef (some (X,false))∧An w w':=by
 have N16:=trivial;exact Qo
theorem J3v {l:List Int}(aw:n≤c)(aq:c≤maxLen)(hn:n≤4096)(hk:k≤n)(cb:1≤g)(bj:g≤4096)(H:Hid (∀w1:World,An w w1→Calls prog 168 #[.agg #[.slice A n c,k,g,op]] w1 fun e w'=>e=Ef o∧An w1 w')):
 Calls prog 146 #[.agg #[.slice A n c,k,g,op],.int .i64 108] w fun e w'=>e=Ef (o)∧An w w':=by
 have N17:=trivial;exact Qo
theorem J3u {l:List Int}(aw:n≤c)(aq:c≤maxLen)(hn:n≤4096)(hk:k≤n)(cb:1≤g)(bj:g≤4096)(h0:0<n)(H:Hid (∀w1:World,An w w1→Calls prog 171 #[.agg #[.slice A n c,k,g,op],.bool false] w1 fun e w'=>e=Ef o∧An w1 w')):
 Calls prog 146 #[.agg #[.slice A n c,k,g,op],.int .i64 119] w fun e w'=>e=Ef (o)∧An w w':=by
 have N18:=trivial;exact Qo
theorem J5x {l:List Int}(aw:n≤c)(aq:c≤maxLen)(hn:n≤4096)(hk:k≤n)(cb:1≤g)(bj:g≤4096)(h0:0<n)(H:Hid (∀w1:World,An w w1→Calls prog 171 #[.agg #[.slice A n c,k,g,op],.bool true] w1 fun e w'=>e=Ef o∧An w1 w')):
 Calls prog 146 #[.agg #[.slice A n c,k,g,op],.int .i64 87] w fun e w'=>e=Ef (o)∧An w w':=by
 have N19:=trivial;exact Qo
theorem J3w {l:List Int}(aw:n≤c)(aq:c≤maxLen)(hn:n≤4096)(hk:k≤n)(cb:1≤g)(bj:g≤4096)(h0:0<n)(H:Hid (∀w1:World,An w w1→Calls prog 172 #[.agg #[.slice A n c,k,g,op],.bool false] w1 fun e w'=>e=Ef o∧An w1 w')):
 Calls prog 146 #[.agg #[.slice A n c,k,g,op],.int .i64 101] w fun e w'=>e=Ef (o)∧An w w':=by
 have N20:=trivial;exact Qo
theorem J5y {l:List Int}(aw:n≤c)(aq:c≤maxLen)(hn:n≤4096)(hk:k≤n)(cb:1≤g)(bj:g≤4096)(h0:0<n)(H:Hid (∀w1:World,An w w1→Calls prog 172 #[.agg #[.slice A n c,k,g,op],.bool true] w1 fun e w'=>e=Ef o∧An w1 w')):
 Calls prog 146 #[.agg #[.slice A n c,k,g,op],.int .i64 69] w fun e w'=>e=Ef (o)∧An w w':=by
 have N21:=trivial;exact Qo
theorem J6a {l:List Int}(aw:n≤c)(aq:c≤maxLen)(hn:n≤4096)(hk:k≤n)(cb:1≤g)(bj:g≤4096){R:Option (Nat×Bool)→Prop}(h0:0<n)(H:Hid (∀w1:World,An w w1→Calls prog 173 #[.agg #[.slice A n c,k,g,op]] w1 fun e w'=>(∃o,R o∧e=Ef o)∧An w1 w')):
 Calls prog 146 #[.agg #[.slice A n c,k,g,op],.int .i64 37] w fun e w'=>(∃o,R o∧e=Ef o)∧An w w':=by
 have N22:=trivial;exact Qo
theorem J0q {l:List Int}(aw:n≤c)(aq:c≤maxLen)(hn:n≤4096)(hk:k≤n)(cb:1≤g)(bj:g≤4096)(H:Hid (∀w1:World,An w w1→Calls prog 167 #[.agg #[.slice A n c,k,g,op],.int .i64 arg,.int .i64 1] w1 fun e w'=>e=Rs none∧An w1 w')):
 Calls prog 145 #[.agg #[.slice A n c,k,g,op],.int .i64 102,.int .i64 arg] w fun e w'=>e=Ef (none)∧An w w':=by
 have N23:=trivial;exact Qo
theorem J0p {l:List Int}(aw:n≤c)(aq:c≤maxLen)(hn:n≤4096)(hk:k≤n)(cb:1≤g)(bj:g≤4096)(hj:1≤j∧j≤4096)(H:Hid (∀w1:World,An w w1→Calls prog 167 #[.agg #[.slice A n c,k,g,op],.int .i64 arg,.int .i64 1] w1 fun e w'=>e=Rs (some j)∧An w1 w')):
 Calls prog 145 #[.agg #[.slice A n c,k,g,op],.int .i64 102,.int .i64 arg] w fun e w'=>e=Ef (some (j,true))∧An w w':=by
 have N24:=trivial;exact Qo
theorem J4v {l:List Int}(aw:n≤c)(aq:c≤maxLen)(hn:n≤4096)(hk:k≤n)(cb:1≤g)(bj:g≤4096)(H:Hid (∀w1:World,An w w1→Calls prog 167 #[.agg #[.slice A n c,k,g,op],.int .i64 arg,.int .i64 (-1)] w1 fun e w'=>e=Rs none∧An w1 w')):
 Calls prog 145 #[.agg #[.slice A n c,k,g,op],.int .i64 70,.int .i64 arg] w fun e w'=>e=Ef (none)∧An w w':=by
 have N25:=trivial;exact Qo
theorem J4u {l:List Int}(aw:n≤c)(aq:c≤maxLen)(hn:n≤4096)(hk:k≤n)(cb:1≤g)(bj:g≤4096)(hj:j≤4096)(H:Hid (∀w1:World,An w w1→Calls prog 167 #[.agg #[.slice A n c,k,g,op],.int .i64 arg,.int .i64 (-1)] w1 fun e w'=>e=Rs (some j)∧An w1 w')):
 Calls prog 145 #[.agg #[.slice A n c,k,g,op],.int .i64 70,.int .i64 arg] w fun e w'=>e=Ef (some (j,false))∧An w w':=by
 have N26:=trivial;exact Qo
theorem J0o {l:List Int}(aw:n≤c)(aq:c≤maxLen)(hn:n≤4096)(hk:k≤n)(cb:1≤g)(bj:g≤4096)(H:Hid (∀w1:World,An w w1→Calls prog 167 #[.agg #[.slice A n c,k,g,op],.int .i64 arg,.int .i64 1] w1 fun e w'=>e=Rs none∧An w1 w')):
 Calls prog 145 #[.agg #[.slice A n c,k,g,op],.int .i64 116,.int .i64 arg] w fun e w'=>e=Ef (none)∧An w w':=by
 have N27:=trivial;exact Qo
theorem J0n {l:List Int}(aw:n≤c)(aq:c≤maxLen)(hn:n≤4096)(hk:k≤n)(cb:1≤g)(bj:g≤4096)(hj:1≤j∧j≤4096)(H:Hid (∀w1:World,An w w1→Calls prog 167 #[.agg #[.slice A n c,k,g,op],.int .i64 arg,.int .i64 1] w1 fun e w'=>e=Rs (some j)∧An w1 w')):
 Calls prog 145 #[.agg #[.slice A n c,k,g,op],.int .i64 116,.int .i64 arg] w fun e w'=>e=Ef (some (j-1,true))∧An w w':=by
 have N28:=trivial;exact Qo
theorem J4t {l:List Int}(aw:n≤c)(aq:c≤maxLen)(hn:n≤4096)(hk:k≤n)(cb:1≤g)(bj:g≤4096)(H:Hid (∀w1:World,An w w1→Calls prog 167 #[.agg #[.slice A n c,k,g,op],.int .i64 arg,.int .i64 (-1)] w1 fun e w'=>e=Rs none∧An w1 w')):
 Calls prog 145 #[.agg #[.slice A n c,k,g,op],.int .i64 84,.int .i64 arg] w fun e w'=>e=Ef (none)∧An w w':=by
 have N29:=trivial;exact Qo
theorem J4s {l:List Int}(aw:n≤c)(aq:c≤maxLen)(hn:n≤4096)(hk:k≤n)(cb:1≤g)(bj:g≤4096)(hj:j≤4096)(H:Hid (∀w1:World,An w w1→Calls prog 167 #[.agg #[.slice A n c,k,g,op],.int .i64 arg,.int .i64 (-1)] w1 fun e w'=>e=Rs (some j)∧An w1 w')):
 Calls prog 145 #[.agg #[.slice A n c,k,g,op],.int .i64 84,.int .i64 arg] w fun e w'=>e=Ef (some (j+1,false))∧An w w':=by
 have N30:=trivial;exact Qo
end
