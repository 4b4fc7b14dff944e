/-
  Part ZVjP.
-/
import Derived.Test.YtiahhfglhlgfiaaGreatZVjE
set_option maxRecDepth 100000
set_option maxHeartbeats 16000000
set_option linter.unusedVariables false
set_option linter.unusedSimpArgs false
namespace Go.Proofs.YtiahhfglhlgfiaaGreat
open Go.RowKit
section
variable {cs:Array Value}{w:World}
theorem M4 {P:Program}{ops:Array Oper}{rest:List Oper}{o:Oper}{a:Act}{Q:Exit→Act→World→Prop}(hw:Region.wanted o (yielded ops a.tmps)=true)(ty:TypeId)(x:Operand)(ho:o.op=.load ty x)
 (g off:Nat) (hx:a.eval x=.pointer (some ⟨g,off,none⟩)) (t:TypeId) (cs vs:Array Value) (fr:Nat×Nat) (d:TypeDesc) (hg:w.heap[g]? = some (.cells cs t fr)) (hv:∀j v,vs[j]? = some v→cs[off+j]? = some v)
 (hu:P.underlying ty=some d) (hd:(match d with|.struct _|.array _ _=>true|_=>false)=true) (hi:(P.info? ty).map (·.size)=some vs.size)
 (h:wpList P ops Q rest (a.put o.dst (.agg vs)) w):wpList P ops Q (o::rest) a w:=by
 unfold wpList;rw[if_pos hw];refine .inl ?_
 unfold Oper.wp execOp;simp only[ho,hx,Instr.loadAt,Instr.sureAddr,Sem.run_bind,Sem.run_pure,Result.andThen_ok,Hp w g off t ty cs vs fr d hg hv hu hd hi];exact h
theorem tK (h:cs.size=44):∀(j:Nat) (v:Value),(cs.extract 10 37)[j]? = some v→cs[10+j]? = some v:=by
 intro j v hv;rw[Array.getElem?_extract]at hv;split at hv
 ·exact hv
 ·cases hv
theorem eX (h:cs.size=44):(cs.extract 10 37).size=27:=by rw[Array.size_extract,h];rfl
theorem kV (h:cs.size=44):(Tryz.prog.info? 40).map (·.size)=some (cs.extract 10 37).size:=by rw[eX h];kernel_rfl
theorem Ed.regs' {b:Nat}{s:PS}(h:Ed w b cs s):Ka w (cs.extract 10 37) s.rl:=by
 refine⟨eX h.size,fun i hi=>?_⟩
 obtain⟨v,h1,h2⟩:=h.regs i hi;exact⟨v,by rw[Array.getElem?_extract,if_pos (by rw[h.size];omega)];exact h1,h2.sl⟩
theorem Zx {b b':Nat}{cs ds:Array Value}{s:PS}(h:Ed w b cs s)(h':Ed w b' ds s):
 Calls Tryz.prog 10 #[.agg cs,.agg ds] w fun e w'=>e=.returned (.bool true)∧Al w w':=by
 have hx:Al w ((w.alloc (.cells cs 45)).alloc (.cells ds 45)):=(Al.alloc _ _).to_alloc _;have hb1:=(An.new w 45 cs).ext (Al.alloc _ (.cells ds 45));have hb2:=An.new (w.alloc (.cells cs 45)) 45 ds;rw[World.size_alloc]at hb2;obtain⟨W2,hW2⟩:∃x,x=(w.alloc (.cells cs 45)).alloc (.cells ds 45):=⟨_,rfl⟩;rw[←hW2]at hx hb1 hb2;obtain⟨v0,a0,A,n,c,rfl,t1,_⟩:=h.text;obtain⟨v0',a0',A',n',c',rfl,t1',_⟩:=h'.text;obtain⟨v1,a1,B,m,d,rfl,r1,_⟩:=h.row;obtain⟨v1',a1',B',m',d',rfl,r1',_⟩:=h'.row;obtain⟨L,k,e,a2,l1⟩:=h.lines;obtain⟨L',k',e',a2',l1'⟩:=h'.lines;have hk:k'=k:=by have h1:=l1.lns.len;have h2:=l1'.lns.len;omega
 subst hk;have HLine:Hid (∀wq,Al W2 wq→_):=A4 fun wq he=>Zy (a:=s.at_) (t1.ints.ext (hx.trans he)) (t1'.ints.ext (hx.trans he))
 have HRow:Hid (∀wq,Al W2 wq→_):=A4 fun wq he=>bU (a:=s.rat) (r1.ints.ext (hx.trans he)) (r1'.ints.ext (hx.trans he))
 have HLns:Hid (∀wq,Al W2 wq→_):=A4 fun wq he=>lY (l1.lns.ext (hx.trans he)) (l1'.lns.ext (hx.trans he))
 have HRg:Hid (∀wq,Al W2 wq→_):=A4 fun wq he=>Zw (h.regs'.ext (hx.trans he)) (h'.regs'.ext (hx.trans he))
 have HX:=A4 hx;have HB1:Hid (∀wq,Al W2 wq→_):=A4 fun wq he=>hb1.ext he
 have HB2:Hid (∀wq,Al W2 wq→_):=A4 fun wq he=>hb2.ext he
 have HS:=A4 (And.intro h.size h'.size);have HCell:Hid (∀wq,Al W2 wq→wq.cell? ⟨w.heap.size,0,none⟩=some (.slice A n c)∧wq.cell? ⟨w.heap.size+1,0,none⟩=some (.slice A' n' c')∧wq.cell? ⟨w.heap.size,1,none⟩=some (.int .i64 s.at_)∧wq.cell? ⟨w.heap.size+1,1,none⟩=some (.int .i64 s.at_)∧wq.cell? ⟨w.heap.size,2,none⟩=some (.int .i64 s.mode)∧wq.cell? ⟨w.heap.size+1,2,none⟩=some (.int .i64 s.mode)∧wq.cell? ⟨w.heap.size,3,none⟩=some (.int .i64 s.part.first)∧wq.cell? ⟨w.heap.size+1,3,none⟩=some (.int .i64 s.part.first)∧wq.cell? ⟨w.heap.size,4,none⟩=some (.int .i64 s.part.reg)∧wq.cell? ⟨w.heap.size+1,4,none⟩=some (.int .i64 s.part.reg)∧wq.cell? ⟨w.heap.size,5,none⟩=some (.int .i64 s.part.op)∧wq.cell? ⟨w.heap.size+1,5,none⟩=some (.int .i64 s.part.op)∧wq.cell? ⟨w.heap.size,6,none⟩=some (.int .i64 s.part.second)∧wq.cell? ⟨w.heap.size+1,6,none⟩=some (.int .i64 s.part.second)∧wq.cell? ⟨w.heap.size,7,none⟩=some (.int .i64 s.part.wait)∧wq.cell? ⟨w.heap.size+1,7,none⟩=some (.int .i64 s.part.wait)∧wq.cell? ⟨w.heap.size,8,none⟩=some (.int .i64 s.fk)∧wq.cell? ⟨w.heap.size+1,8,none⟩=some (.int .i64 s.fk)∧wq.cell? ⟨w.heap.size,9,none⟩=some (.int .i64 s.fa)∧wq.cell? ⟨w.heap.size+1,9,none⟩=some (.int .i64 s.fa)∧wq.cell? ⟨w.heap.size,37,none⟩=some (.int .i64 (s.past.length:Int))∧wq.cell? ⟨w.heap.size+1,37,none⟩=some (.int .i64 (s.past.length:Int))∧wq.cell? ⟨w.heap.size,38,none⟩=some (.slice L k' e)∧wq.cell? ⟨w.heap.size+1,38,none⟩=some (.slice L' k' e')∧wq.cell? ⟨w.heap.size,39,none⟩=some (.int .i64 s.hi.at_)∧wq.cell? ⟨w.heap.size+1,39,none⟩=some (.int .i64 s.hi.at_)∧wq.cell? ⟨w.heap.size,40,none⟩=some (.bool s.over)∧wq.cell? ⟨w.heap.size+1,40,none⟩=some (.bool s.over)∧wq.cell? ⟨w.heap.size,41,none⟩=some (.slice B m d)∧wq.cell? ⟨w.heap.size+1,41,none⟩=some (.slice B' m' d')∧wq.cell? ⟨w.heap.size,42,none⟩=some (.int .i64 s.rat)∧wq.cell? ⟨w.heap.size+1,42,none⟩=some (.int .i64 s.rat)∧wq.cell? ⟨w.heap.size,43,none⟩=some (.int .i64 s.off)∧wq.cell? ⟨w.heap.size+1,43,none⟩=some (.int .i64 s.off)):=A4 fun wq he=>⟨((HB1.out wq he).cell 0).trans a0,((HB2.out wq he).cell 0).trans a0',((HB1.out wq he).cell 1).trans h.at_,((HB2.out wq he).cell 1).trans h'.at_,((HB1.out wq he).cell 2).trans h.mode,((HB2.out wq he).cell 2).trans h'.mode,((HB1.out wq he).cell 3).trans h.part.1,((HB2.out wq he).cell 3).trans h'.part.1,((HB1.out wq he).cell 4).trans h.part.2.1,((HB2.out wq he).cell 4).trans h'.part.2.1,((HB1.out wq he).cell 5).trans h.part.2.2.1,((HB2.out wq he).cell 5).trans h'.part.2.2.1,((HB1.out wq he).cell 6).trans h.part.2.2.2.1,((HB2.out wq he).cell 6).trans h'.part.2.2.2.1,((HB1.out wq he).cell 7).trans h.part.2.2.2.2,((HB2.out wq he).cell 7).trans h'.part.2.2.2.2,((HB1.out wq he).cell 8).trans h.find.1,((HB2.out wq he).cell 8).trans h'.find.1,((HB1.out wq he).cell 9).trans h.find.2,((HB2.out wq he).cell 9).trans h'.find.2,((HB1.out wq he).cell 37).trans h.past,((HB2.out wq he).cell 37).trans h'.past,((HB1.out wq he).cell 38).trans a2,((HB2.out wq he).cell 38).trans a2',((HB1.out wq he).cell 39).trans h.where_,((HB2.out wq he).cell 39).trans h'.where_,((HB1.out wq he).cell 40).trans h.over,((HB2.out wq he).cell 40).trans h'.over,((HB1.out wq he).cell 41).trans a1,((HB2.out wq he).cell 41).trans a1',((HB1.out wq he).cell 42).trans h.rat,((HB2.out wq he).cell 42).trans h'.rat,((HB1.out wq he).cell 43).trans h.off,((HB2.out wq he).cell 43).trans h'.off⟩
 have HWW:=A4 hW2;clear h h' hx hb1 hb2 t1 t1' r1 r1' l1 l1' a0 a0' a1 a1' a2 a2' hW2;go_enter Tryz.func10,Tryz.ntmps10
 go_upto_region 1 with fail
 change Code.wp _ _ _ _ ((w.alloc (.cells cs 45)).alloc (.cells ds 45));rw[←HWW.out];obtain⟨x0,y0,x1,y1,x2,y2,x3,y3,x4,y4,x5,y5,x6,y6,x7,y7,x8,y8,x9,y9,x37,y37,x38,y38,x39,y39,x40,y40,x41,y41,x42,y42,x43,y43⟩:=HCell.out W2 (Al.refl _);go_upto_region 2 with fail
 go_wp2_with fail
 refine(HLine.out W2 (Al.refl _)).mono ?_
 rintro e1 w3 ⟨rfl,he3⟩;clear x0 y0 x1 y1 x2 y2 x3 y3 x4 y4 x5 y5 x6 y6 x7 y7 x8 y8 x9 y9 x37 y37 x38 y38 x39 y39 x40 y40 x41 y41 x42 y42 x43 y43;go_wp2_with (first
  |(refine M4 (by kernel_rfl) 40 (.tmp 62) rfl w.heap.size 10 rfl 45 cs (cs.extract 10 37) (0,0) _ (HB1.out _ he3) (tK HS.out.1) Tryz.underlying40 rfl (kV HS.out.1) ?_)
  |(refine M4 (by kernel_rfl) 40 (.tmp 64) rfl (w.heap.size+1) 10 rfl 45 ds (ds.extract 10 37) (0,0) _ (HB2.out _ he3) (tK HS.out.2) Tryz.underlying40 rfl (kV HS.out.2) ?_))
 refine(HRg.out w3 he3).mono ?_
 rintro e2 w4 ⟨rfl,he4⟩;have he34:=he3.trans he4;obtain⟨x0,y0,x1,y1,x2,y2,x3,y3,x4,y4,x5,y5,x6,y6,x7,y7,x8,y8,x9,y9,x37,y37,x38,y38,x39,y39,x40,y40,x41,y41,x42,y42,x43,y43⟩:=HCell.out w4 he34;go_wp2_with fail
 refine(HLns.out w4 he34).mono ?_
 rintro e3 w5 ⟨rfl,he5⟩;have he35:=he34.trans he5;clear x0 y0 x1 y1 x2 y2 x3 y3 x4 y4 x5 y5 x6 y6 x7 y7 x8 y8 x9 y9 x37 y37 x38 y38 x39 y39 x40 y40 x41 y41 x42 y42 x43 y43;obtain⟨x0,y0,x1,y1,x2,y2,x3,y3,x4,y4,x5,y5,x6,y6,x7,y7,x8,y8,x9,y9,x37,y37,x38,y38,x39,y39,x40,y40,x41,y41,x42,y42,x43,y43⟩:=HCell.out w5 he35;go_wp2_with fail
 refine(HRow.out w5 he35).mono ?_
 rintro e4 w6 ⟨rfl,he6⟩;clear x0 y0 x1 y1 x2 y2 x3 y3 x4 y4 x5 y5 x6 y6 x7 y7 x8 y8 x9 y9 x37 y37 x38 y38 x39 y39 x40 y40 x41 y41 x42 y42 x43 y43;go_wp2_with fail
 go_ret
 exact⟨rfl,HX.out.trans (he35.trans he6)⟩
end
