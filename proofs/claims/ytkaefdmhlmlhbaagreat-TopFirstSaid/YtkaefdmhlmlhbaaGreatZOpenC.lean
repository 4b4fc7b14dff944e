/-
  Part ZOpenC.
-/
import Derived.Test.YtkaefdmhlmlhbaaGreatZKeyV1
import Derived.Test.YtkaefdmhlmlhbaaGreatZShell
import Derived.Deep.Slices
import Derived.Deep.Fields
import Derived.ChangeSame
set_option maxRecDepth 100000
set_option maxHeartbeats 16000000
set_option linter.unusedVariables false
set_option linter.unusedSimpArgs false
namespace Go.Proofs.YtkaefdmhlmlhbaaGreat
open _root_.Go.Proofs.Tryz
open _root_.List renaming getElem?_eq_getElem→Bm
open Go.ChangeShapes Go.WideShapes Go.ChangeAt Go.RowKit Go.WideElems Go.Deep
section
variable {H:Type} {enc:TypeId×Value→H} {P:Program} {w:World} {base:Nat} {spare:Nat→Bool} {held:Bool}
theorem F6 {t e:TypeId}{fs:Array Field}{fuel:Nat}{cs:List Value}{x:DataW H×List MemPlace}(ht:P.underlying t=some (.slice e))(he:P.underlying e=some (.struct fs))
 (cm:oneCellFields P fs=true) (hC:P.cellsOf e=fs.size) (h:DataW.trod enc P w base spare held fuel t cs=some x):
 cs=[.slice none 0 0]∨
 ∃(a:Addr) (len cap m:Nat),cs=[.slice (some a) len cap]∧len≤cap∧cap≤maxLen∧m=(if spare a.block then cap else len)∧
  ∀i,i<m→∃n:Nat,∀(j:Nat) (f:Field),fs[j]? = some f→∃(v:Value) (y:DataW H×List MemPlace),w.cell? (a.add (i*fs.size+j))=some v∧DataW.trod enc P w base spare held n f.type [v]=some y:=by
 rcases open_slice ht h with h0|⟨a,len,cap,m,n,D,Pl,ff,hb,hl,hm,eK,hx,hi⟩
 ·exact .inl h0.1
 ·refine .inr ⟨a,len,cap,m,ff,hl,hm,eK,fun i him=>?_⟩
  obtain⟨cs',hc,SC⟩:=hi i him;rw[hC]at hc;obtain⟨ys,n',uc,hy,ab,hyl,hf⟩:=DataW.trod_struct he SC;obtain⟨_,hcl,gt⟩:=World.cells?_some hc;refine⟨n',fun j f hj=>?_⟩
  obtain⟨ho,hk⟩:=hone_of cm j f hj;have oZ:j<fs.size:=(Array.getElem?_eq_some_iff.1 hj).1;have kh:=gt j oZ;have hv:cs'[j]? = some (cs'[j]'(by omega)):=Bm (by omega)
  have h1:=hf j f hj;rw[ho,hk]at h1;have jJ:(cs'.drop j).take 1=[cs'[j]'(by omega)]:=by
   rw[List.drop_eq_getElem_cons (by omega)]
   rfl
  rw[jJ]at h1;have mN:ys[j]? = some (ys[j]'(by omega)):=Bm (by omega)
  refine⟨_,_,?_,h1.trans mN⟩
  rw[←Go.Deep.add_add,kh,hv]
end
theorem J7o {α:Type}(Q:Nat→α→Prop):∀n:Nat,(∀i,i<n→∃s,Q i s)→∃l:List α,l.length=n∧∀i s,l[i]? = some s→Q i s
 |0,_=>⟨[],rfl,fun i s h=>by simp at h⟩
 |n+1,h=>by
  obtain⟨l,hl,hq⟩:=J7o Q n (fun i hi=>h i (by omega))
  obtain⟨s,hs⟩:=h n (by omega)
  refine⟨l++[s],by simp[hl],fun i u hu=>?_⟩
  rcases Nat.lt_or_ge i l.length with h1|h1
  ·rw[List.getElem?_append_left h1]at hu
   exact hq i u hu
  ·rw[List.getElem?_append_right h1]at hu
   have h2:i-l.length=0:=by
    rcases Nat.eq_zero_or_pos (i-l.length)with h2|h2
    ·exact h2
    ·rw[List.getElem?_eq_none (by simp;omega)]at hu;cases hu
   rw[h2]at hu;injection hu with hu;subst hu;rw[show i=n by omega];exact hs
def J8r (P:Program)(t:TypeId):Bool:=
 match P.underlying t with
 |some (.struct fs)=>oneCellFields P fs&&fs.size==5&&P.cellsOf t==5&&fs.all fun f=>match P.underlying f.type with|some (.int .i64)=>true|_=>false
 |_=>false
theorem J8l:J8r prog 62=true:=by kernel_rfl
theorem J8b {H:Type}{enc:TypeId×Value→H}{W:World}{base b0:Nat}{r:Reach}{v:Value}{d:DataW H}{p:List MemPlace}
 (hv:Value.okWide prog W r b0 71 v) (h:DataW.Trod enc prog W base (fun _=>true) true 71 v d p):
 ∃A n c l,v=.slice A n c∧Cms W A n c l:=by
 obtain⟨a0,len,cap,rfl⟩:=okWide_slice underlying71 hv;have hB:=J8l;unfold J8r at hB;split at hB
 ·rename_i fs KO
  simp only[Bool.and_eq_true,beq_iff_eq]at hB;obtain⟨⟨⟨cm,dl⟩,hce⟩,ax⟩:=hB;obtain⟨fuel,hf⟩:=h;rcases F6 underlying71 KO cm (by rw[hce,dl]) hf with ff|⟨a,pA,ib,m,ff,hl,hm,eK,hi⟩
  ·simp[Value.cells]at ff
   obtain⟨rfl,rfl,rfl⟩:=ff;exact⟨none,0,0,[],rfl,⟨rfl,Nat.le_refl _,by unfold maxLen;omega,fun h=>absurd h (by decide)⟩⟩
  ·simp[Value.cells]at ff
   obtain⟨rfl,rfl,rfl⟩:=ff;simp only[if_true]at eK;have cell:∀i,i<len→∀j,j<5→∃z:Int,W.cell? (a.add (i*5+j))=some (.int .i64 z):=by
    intro i fP j hj;obtain⟨n',hg⟩:=hi i (by omega)
    have l6:j<fs.size:=by omega
    obtain⟨v0,y0,c0,t0⟩:=hg j fs[j] (Array.getElem?_eq_getElem l6);rw[dl]at c0;have hu:=Array.all_eq_true.1 ax j l6;have hu:prog.underlying (fs[j]).type=some (.int .i64):=by
     split at hu
     ·assumption
     ·cases hu
    obtain⟨z0,bm,_,_⟩:=DataW.trod_int hu t0;injection bm with bm;subst bm;exact⟨z0,c0⟩
   have each:∀i,i<len→∃s:Cm,∀j u,(qU s)[j]? = some u→W.cell? (a.add (i*5+j))=some u:=by
    intro i fP;obtain⟨z0,c0⟩:=cell i fP 0 (by omega)
    obtain⟨z1,c1⟩:=cell i fP 1 (by omega)
    obtain⟨z2,c2⟩:=cell i fP 2 (by omega)
    obtain⟨z3,c3⟩:=cell i fP 3 (by omega)
    obtain⟨z4,c4⟩:=cell i fP 4 (by omega)
    refine⟨⟨z0,z1,z2,z3,z4⟩,fun j u hu=>?_⟩
    have hj:j<5:=(List.getElem?_eq_some_iff.1 hu).1;rcases(show j=0∨j=1∨j=2∨j=3∨j=4 by omega)with rfl|rfl|rfl|rfl|rfl
    all_goals
     injection hu with hu;subst hu
     assumption
   obtain⟨l,SH,hq⟩:=J7o _ len each;refine⟨some a,len,cap,l,rfl,⟨by rw[cT];omega,hl,hm,fun _=>⟨a,rfl,fun j u hu=>?_⟩⟩⟩
   have hj:j<5*l.length:=by
    have:=(List.getElem?_eq_some_iff.1 hu).1;rw[cT]at this;exact this
   have hk:j/5<l.length:=by omega
   have hj5:j=j/5*5+j%5:=by omega
   rw[hj5,kV l (j/5) hk (j%5) (Nat.mod_lt _ (by omega))]at hu
   rw[hj5];exact hq (j/5) _ (Bm hk) (j%5) u hu
 ·cases hB
