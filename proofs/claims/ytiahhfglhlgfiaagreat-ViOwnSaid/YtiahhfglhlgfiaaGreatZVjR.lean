/-
  Part ZVjR.
-/
import Derived.Test.YtiahhfglhlgfiaaGreatZVjP
import Derived.Laws.IdiomStrings
import Derived.Deep.DeepCutAuto
import Derived.Deep.CutRange
import Derived.Deep.CutBlock
import Derived.Deep.Light
set_option maxRecDepth 100000
set_option maxHeartbeats 16000000
set_option linter.unusedVariables false
set_option linter.unusedSimpArgs false
namespace Go.Proofs.YtiahhfglhlgfiaaGreat
open Go.RowKit
section
variable {w0 w w':World}{cs ct:Nat→Nat}{p q:Nat}{s t:PS}{v u:SV}
def S2:ByteArray:=⟨#[46,13]⟩
theorem Ed.same {w:World}{b:Nat}{cs:Array Value}{t:List (Int×List Int)}{u:List Int}(h:Ed w b cs { s with told:=t,vis:=u }):Ed w b cs s:=
 ⟨h.size,h.text,h.at_,h.mode,h.part,h.find,h.regs,h.past,h.lines,h.where_,h.over,h.row,h.rat,h.off⟩
theorem Ed.win {w w':World}{b:Nat}{cs:Array Value}(h:Ed w b cs s)(hw:∀k,b≤k→k<w.heap.size→w'.heap[k]? = w.heap[k]?):Ed w' b cs s:=
 {
  h with
  text:=let ⟨v,h1,h2⟩:=h.text;⟨v,h1,h2.win hw⟩
  regs:=fun i hi=>let ⟨v,h1,h2⟩:=h.regs i hi;⟨v,h1,h2.win hw⟩
  lines:=let ⟨A,n,c,h1,h2⟩:=h.lines;⟨A,n,c,h1,h2.win hw⟩
  row:=let ⟨v,h1,h2⟩:=h.row;⟨v,h1,h2.win hw⟩ }
theorem iL (w:World)(cs:Array Value):Al w ((w.alloc (.cells Fx 45)).setRow w.heap.size cs)∧An ((w.alloc (.cells Fx 45)).setRow w.heap.size cs) w.heap.size 45 cs:=
 ⟨(Al.alloc w (.cells Fx 45)).setRow (Nat.le_refl _) cs,(An.new w 45 Fx).setRow cs⟩
theorem Qv {W N:Nat}(h:Mf W N s):s.tx.length≤200∧s.hi.lines.length≤1000:=
 ⟨h.inv.choose_spec.line.len,by have h1:=h.inv.choose_spec.hist;have:=h1.len;have:=h1.hi;omega⟩
structure Yb (w0 w:World)(cs:Nat→Nat)(p:Nat)(v:SV)(s:PS)(ct:Nat→Nat)(q:Nat)(u:SV)(t:PS):Prop where
 x:Al w0 w
 l:Db w cs p v s
 r:Db w ct q u t
 bl:∀k,cs k≠0→w0.heap.size≤k
 br:∀k,ct k≠0→w0.heap.size≤k
 dis:∀k,cs k≠0→ct k=0
theorem Yb.flip {w0 w:World}(h:Yb w0 w cs p v s ct q u t):Yb w0 w ct q u t cs p v s:=
 ⟨h.x,h.r,h.l,h.br,h.bl,fun k hk=>Decidable.byContradiction fun hn=>hk (h.dis k hn)⟩
theorem Yb.ext (h:Yb w0 w cs p v s ct q u t)(he:Al w w'):Yb w0 w' cs p v s ct q u t:=
 ⟨h.x.trans he,h.l.ext he,h.r.ext he,h.bl,h.br,h.dis⟩
theorem Yb.left {cs ct cs':Nat→Nat}{v v' u:SV}{s s' t:PS}(h:Yb w0 w cs p v s ct q u t)(hm:Db w' cs' p v' s')(ht:Kp w cs w' cs'):Yb w0 w' cs' p v' s' ct q u t where
 x:=ht.alt.to_ext h.x fun k hk hM=>absurd (h.bl k hM.1) (by omega)
 l:=hm
 r:=h.r.alt ht.alt fun k _ hM=>h.dis k hM.1
 bl:=fun k hk=>by
  rcases Nat.lt_or_ge k w.heap.size with h1|h1
  ·exact h.bl k (ht.sub k h1 hk)
  ·exact Nat.le_trans h.x.hsize h1
 br:=h.br
 dis:=fun k hk=>Decidable.byContradiction fun hn=>hn (h.dis k (ht.sub k (h.r.ses.dom k hn) hk))
theorem Yb.right {cs ct ct':Nat→Nat}{v u u':SV}{s t t':PS}(h:Yb w0 w cs p v s ct q u t)(hm:Db w' ct' q u' t')(ht:Kp w ct w' ct'):Yb w0 w' cs p v s ct' q u' t':=(h.flip.left hm ht).flip
theorem Yb.alt {M:Nat→Prop}(h:Yb w0 w cs p v s ct q u t)(ha:Fp M w w')(hM:∀k,k<w.heap.size→M k→cs k=0∧ct k=0∧w0.heap.size≤k):Yb w0 w' cs p v s ct q u t:=
 ⟨ha.to_ext h.x fun k hk hm=>by have:=(hM k (Nat.lt_of_lt_of_le hk h.x.hsize) hm).2.2;omega,h.l.alt ha fun k hk hm=>(hM k hk hm).1,h.r.alt ha fun k hk hm=>(hM k hk hm).2.1,h.bl,h.br,h.dis⟩
theorem Db.evs {w:World}{col:Nat→Nat}{p:Nat}{v:SV}{E:Option Addr}{n k:Nat}(h:Db w col p v s)(hv:v.told=.slice E n k):fG w E n k s.told:=by
 obtain⟨E1,n1,k1,xs,hvt,hO,hl,_,hD⟩:=h.told;rw[hv]at hvt;injection hvt with a1 a2 a3;subst a1 a2 a3;have hev:yD w 0 (.slice E n k) s.told:=⟨E,n,k,xs,rfl,hO,hl,hD.here⟩;obtain⟨E',n',k',e2,h2⟩:=hev.v;injection e2 with x1 x2 x3;subst x1 x2 x3;exact h2
end
