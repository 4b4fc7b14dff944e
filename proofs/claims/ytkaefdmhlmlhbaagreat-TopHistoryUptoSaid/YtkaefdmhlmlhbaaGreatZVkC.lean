/-
  Part of the proof: ZVkC.
-/
import Derived.Test.YtkaefdmhlmlhbaaGreatZUpto
import Derived.Test.YtkaefdmhlmlhbaaGreatZVjL
import Derived.SliceStrings
set_option maxRecDepth 100000
set_option maxHeartbeats 16000000
set_option linter.unusedVariables false
set_option linter.unusedSimpArgs false
namespace Go.Proofs.YtkaefdmhlmlhbaaGreat
open _root_.List renaming getElem?_eq_getElem→Bw
open Go.ChangeShapes Go.WideShapes Go.ChangeAt Go.RowKit Go.WideElems
theorem Z5c:Tryz.prog.cellsOf 9=1:=by kernel_rfl
theorem Z6a (ts:List ByteArray):∀i,i≤ts.length→szI ts i=((ts.take i).map fun b=>b.size+1).sum:=by
 intro i
 induction i with
 |zero=>intro _;rfl
 |succ i ih=>
  intro h;have hi:i<ts.length:=by omega
  rw[List.take_add_one,Bw hi,List.map_append,List.sum_append,←ih (by omega)]
  show szI ts i+((gB ts i).size+1)=_
  unfold gB;rw[Bw hi];simp
theorem Z5l {H:Type}(l:List ByteArray):Rows.uptoBulkAll (strs (H:=H) l)=(l.map fun b=>b.size+1).sum:=by
 induction l with
 |nil=>rfl
 |cons x l ih=>
  have e:strs (H:=H) (x::l)=.lit (.string x.data.toList)::strs l:=rfl;have h1:Rows.uptoBulk (H:=H) (.lit (.string x.data.toList))=x.size+1:=by
   rw[Rows.uptoBulk];have h9:x.data.toList.length=x.size:=rfl;omega
  rw[e,Rows.uptoBulkAll,h1,ih,List.map_cons,List.sum_cons]
theorem Z4y {H:Type}{enc:TypeId×Value→H}{P:Program}{W:World}{base b0:Nat}{r:Reach}{t e:TypeId}{v:Value}{d:DataW H}{p:List MemPlace}(ht:P.underlying t=some (.slice e))(he:P.underlying e=some .string)(hc:P.cellsOf e=1)
 (hv:Value.okWide P W r b0 t v) (h:DataW.Trod enc P W base (fun _=>true) true t v d p):
 ∃A n c l,v=.slice A n c∧Rd W 1 A n c (l.map Value.string)∧szI l n≤Rows.uptoBulk d:=by
 obtain⟨a0,len,cap,rfl⟩:=okWide_slice ht hv;obtain⟨fuel,hf⟩:=h;rcases open_strings ht he hc hf with⟨hcs,hx⟩|⟨a,len',cap',ss,hcs,_,hl,hm,hz,hx,hcell,_⟩
 ·simp[Value.cells]at hcs
  obtain⟨rfl,rfl,rfl⟩:=hcs;exact⟨none,0,0,[],rfl,⟨rfl,Nat.le_refl _,by unfold maxLen;omega,fun h=>absurd h (by decide)⟩,Nat.zero_le _⟩
 ·simp[Value.cells]at hcs
  obtain⟨rfl,rfl,rfl⟩:=hcs;simp only[if_true]at hz;simp only[Prod.mk.injEq]at hx;have hlen:(ss.take len).length=len:=by rw[List.length_take];omega
  refine⟨some a,len,cap,ss.take len,rfl,⟨by simp;omega,hl,hm,fun _=>⟨a,rfl,fun j u hu=>?_⟩⟩,?_⟩
  ·have hj:=(List.getElem?_eq_some_iff.1 hu).1
   simp at hj;rw[hcell j (by omega)]
   rw[←hu];simp[show j<len by omega,show j<ss.length by omega]
  ·rw[hx.1,Rows.uptoBulk,Z5l,Z6a _ _ (by omega),List.take_of_length_le (by omega)]
   omega
