/-
  Part ZSeg.
-/
import Derived.Test.YtiahhfglhlgfiaaGreatZRegA
import Derived.Laws.CopyRow
import Derived.Great.Ranges
import Derived.Great.BuildSlice
set_option maxRecDepth 100000
set_option maxHeartbeats 16000000
set_option linter.unusedVariables false
set_option linter.unusedSimpArgs false
namespace Go.Proofs.YtiahhfglhlgfiaaGreat
open Go.RowKit
open Region renaming wanted→Bm
section
variable {cs vs:Array Value}
def Lj (cs:Array Value)(o:Nat)(vs:Array Value):Array Value:=(cs.toList.take o++vs.toList++cs.toList.drop (o+vs.size)).toArray
theorem Q8 {o:Nat}(h:o+vs.size≤cs.size):(Lj cs o vs).size=cs.size:=by
 simp[Lj];omega
theorem Cs {o:Nat}(h:o+vs.size≤cs.size)(k:Nat):(Lj cs o vs)[k]? = if k<o then cs[k]? else if k<o+vs.size then vs[k-o]? else cs[k]?:=by
 unfold Lj;simp only[List.getElem?_toArray,List.getElem?_append,List.length_append,List.length_take,Array.length_toList];have hm:min o cs.size=o:=by omega
 rw[hm];by_cases h1:k<o
 ·rw[if_pos (by omega),if_pos h1,if_pos h1,List.getElem?_take,if_pos h1]
  simp
 ·rw[if_neg h1]
  by_cases h2:k<o+vs.size
  ·rw[if_pos h2,if_neg h1,if_pos h2]
   simp
  ·rw[if_neg h2,if_neg h2,List.getElem?_drop,show o+vs.size+(k-(o+vs.size))=k by omega]
   simp
section
variable {P:Program}
theorem Hp (w:World)(g off:Nat)(t ty:TypeId)(cs vs:Array Value)(fr:Nat×Nat)(d:TypeDesc)(hg:w.heap[g]? = some (.cells cs t fr))(hv:∀j v,vs[j]? = some v→cs[off+j]? = some v)
 (hu:P.underlying ty=some d) (hd:(match d with|.struct _|.array _ _=>true|_=>false)=true) (hi:(P.info? ty).map (·.size)=some vs.size):
 (loadVar ty ⟨g,off,none⟩).run P w=.ok (.agg vs) w:=by
 have hl:=run_loadCells_list (P:=P) w ⟨g,off,none⟩ vs.toList (fun j v hj=>by
  have hadd:(⟨g,off,none⟩:Addr).add j=⟨g,off+j,none⟩:=by unfold Addr.add;split<;>simp_all
  rw[hadd,cell_of_row w g (off+j) cs t fr hg];exact hv j v (by simpa using hj))
 cases hq:P.info? ty with
 |none=>simp[hq]at hi
 |some i=>
  have hs:i.size=vs.size:=by simpa[hq]using hi
  have hagg:(isAgg ty).run P w=.ok true w:=by
   unfold isAgg;rw[Sem.run_bind,run_underlying hu w];cases d<;>simp_all
  simp only[Array.length_toList,Array.toArray_toList]at hl;simp[loadVar,Sem.run_bind,hagg,sizeOf,typeInfo,hq,hs,hl]
theorem Mw {ops:Array Oper}{rest:List Oper}{o:Oper}{a:Act}{w:World}{Q:Exit→Act→World→Prop}(hgd:o.guard=none)(ty:TypeId)(x:Operand)(ho:o.op=.load ty x)
 (g off:Nat) (hx:a.eval x=.pointer (some ⟨g,off,none⟩)) (t:TypeId) (cs vs:Array Value) (fr:Nat×Nat) (d:TypeDesc) (hg:w.heap[g]? = some (.cells cs t fr)) (hv:∀j v,vs[j]? = some v→cs[off+j]? = some v)
 (hu:P.underlying ty=some d) (hd:(match d with|.struct _|.array _ _=>true|_=>false)=true) (hi:(P.info? ty).map (·.size)=some vs.size)
 (h:wpList P ops Q rest (a.put o.dst (.agg vs)) w):wpList P ops Q (o::rest) a w:=
 wpList_plain hgd fun _ hK=>by
  unfold Oper.wp execOp;simp only[ho,hx,Instr.loadAt,Instr.sureAddr,Sem.run_bind,Sem.run_pure,Result.andThen_ok,Hp w g off t ty cs vs fr d hg hv hu hd hi];exact hK _ _ h
theorem M5 (w:World)(g off:Nat)(t ty:TypeId)(cs vs:Array Value)(hg:w.heap[g]? = some (.cells cs t (0,0)))(hi:(P.info? ty).map (·.size)=some vs.size)
 (ho:off+vs.size≤cs.size) (h1:vs.all (·.oneCell')=true):
 (storeVar ty ⟨g,off,none⟩ (.agg vs)).run P w=.ok () (w.setRow g (Lj cs off vs)):=by
 have:=run_storeCells_at P g off t vs.toList 0 cs w hg (by simpa using ho) (fun v hv=>(Array.all_eq_true_iff_forall_mem.1 h1) v (by simpa using hv))
 cases hq:P.info? ty with
 |none=>simp[hq]at hi
 |some i=>
  have hs:vs.size=i.size:=by simp[hq]at hi;omega
  simp[storeVar,sizeOf,typeInfo,hq,Value.cells,hs,this,Lj]
theorem Jk {ops:Array Oper}{rest:List Oper}{o:Oper}{a:Act}{w:World}{Q:Exit→Act→World→Prop}(hgd:o.guard=none)(ty:TypeId)(x y:Operand)(ho:o.op=.store ty x y)
 (g off:Nat) (vs:Array Value) (hx:a.eval x=.pointer (some ⟨g,off,none⟩)) (hy:a.eval y=.agg vs)
 (t:TypeId) (cs:Array Value) (hg:w.heap[g]? = some (.cells cs t (0,0))) (hi:(P.info? ty).map (·.size)=some vs.size)
 (hold:off+vs.size≤cs.size) (h1:vs.all (·.oneCell')=true)
 (h:wpList P ops Q rest (a.put o.dst undef) (w.setRow g (Lj cs off vs))):wpList P ops Q (o::rest) a w:=
 wpList_plain hgd fun _ hK=>by
  unfold Oper.wp execOp;simp only[ho,hx,hy,Instr.storeAt,Instr.sureAddr,Sem.run_bind,Sem.run_pure,Result.andThen_ok,M5 w g off t ty cs vs hg hi hold h1];exact hK _ _ h
theorem Bv {ops:Array Oper}{o:Oper}{a:Act}{w:World}{K:Act→World→Prop}{Q:Exit→Act→World→Prop}{E:Prop}(hgd:o.guard=none)(ty:TypeId)(x y:Operand)(ho:o.op=.store ty x y)
 (g off:Nat) (vs:Array Value) (hx:a.eval x=.pointer (some ⟨g,off,none⟩)) (hy:a.eval y=.agg vs)
 (t:TypeId) (cs:Array Value) (hg:w.heap[g]? = some (.cells cs t (0,0))) (hi:(P.info? ty).map (·.size)=some vs.size)
 (hold:off+vs.size≤cs.size) (h1:vs.all (·.oneCell')=true)
 (h:K (a.put o.dst undef) (w.setRow g (Lj cs off vs))):if Bm o (yielded ops a.tmps)=true then Oper.wp P o a w K Q else E:=by
 have hw:Bm o (yielded ops a.tmps)=true:=by simp[Bm,hgd]
 rw[if_pos hw];unfold Oper.wp execOp;simp only[ho,hx,hy,Instr.storeAt,Instr.sureAddr,Sem.run_bind,Sem.run_pure,Result.andThen_ok,M5 w g off t ty cs vs hg hi hold h1];exact h
theorem Ux {ops:Array Oper}{rest:List Oper}{o:Oper}{a:Act}{w:World}{Q:Exit→Act→World→Prop}(hg:o.guard=none)(t:TypeId)(i j k:Nat)(x y z:Operand)(ho:o.op=.build t #[(i,x),(j,y),(k,z)])
 (u v s:Value) (hx:a.eval x=u) (hy:a.eval y=v) (hz:a.eval z=s) (cells:Array Value) (hf:P.built t [(i,u),(j,v),(k,s)]=some cells)
 (h:wpList P ops Q rest (a.put o.dst (.agg cells)) w):wpList P ops Q (o::rest) a w:=
 wpList_buildTo hg t _ ho _ rfl cells (by simp[hx,hy,hz,hf]) h
theorem Zn {ops:Array Oper}{rest:List Oper}{o:Oper}{a:Act}{w:World}{Q:Exit→Act→World→Prop}(hg:o.guard=none)(t:TypeId)(x:Operand)(ho:o.op=.box t x)(cells:Array Value)(hx:a.eval x=.agg cells)
 (h:wpList P ops Q rest (a.put o.dst (.pointer (some ⟨w.heap.size,0,none⟩))) (w.alloc (.cells cells t))):wpList P ops Q (o::rest) a w:=
 Great.wpList_boxTo hg t x ho _ rfl _ rfl cells (by rw[hx];rfl) h
end
theorem Ev {w w':World}(h:Al w w')(row:Option Nat):w.grownBy w' row:=⟨Below.os h,Below.tape h,Below.output h,h.hsize,fun k hk _=>Below.block h k hk⟩
theorem Eu (w:World)(p:Addr)(u:Value):w.grownBy (w.setCell p u) (some p.block):=
 ⟨rfl,rfl,rfl,by simp,fun k hk hne=>by
  unfold World.setCell;split<;>(simp only[Array.getElem?_modify];rw[if_neg (fun e=>hne (by rw[e]))])⟩
theorem Co {a b c:World}{row:Option Nat}(h:a.grownBy b row)(k:b.grownBy c row):a.grownBy c row:=
 ⟨k.os.trans h.os,k.tape.trans h.tape,k.output.trans h.output,Nat.le_trans h.size k.size,fun j hj hn=>(k.block j (Nat.lt_of_lt_of_le hj h.size) hn).trans (h.block j hj hn)⟩
end
