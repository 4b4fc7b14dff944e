/-
  Part ZViA.
-/
import Derived.Test.YtiahhfglhlgfiaaGreatZRopeT
import Derived.Test.YtiahhfglhlgfiaaGreatZSeg
import Derived.Test.YtiahhfglhlgfiaaGreatZUtfA
import Derived.Test.YtiahhfglhlgfiaaGreatZHisA
set_option maxRecDepth 100000
set_option maxHeartbeats 16000000
set_option linter.unusedVariables false
set_option linter.unusedSimpArgs false
namespace Go.Proofs.YtiahhfglhlgfiaaGreat
open Go.RowKit
open _root_.Nat renaming le_trans→Ap,lt_of_lt_of_le→Bn,zero_le→Aw
open Value renaming slice→Aj
open _root_.And renaming intro→Be
open _root_.List renaming getElem?_append_left→Bu,getElem?_append_right→Ca
section
variable {col:Nat→Nat}{cs:Array Value}{w w' w0 w1 w2:World}{A:Option Addr}{p t:Nat}{l:List Int}
structure Fp (M:Nat→Prop)(w w':World):Prop where
 os:w'.os=w.os
 tape:w'.tape=w.tape
 output:w'.output=w.output
 size:w.heap.size≤w'.heap.size
 block:∀k,k<w.heap.size→¬M k→w'.heap[k]? = w.heap[k]?
 node:∀g cs,An w g 125 cs→An w' g 125 cs
section
variable {M M':Nat→Prop} {w w' w'':World}
theorem Fp.refl (M:Nat→Prop)(w:World):Fp M w w:=⟨rfl,rfl,rfl,Nat.le_refl _,fun _ _ _=>rfl,fun _ _ h=>h⟩
theorem Al.alt (h:Al w w')(M:Nat→Prop):Fp M w w':=⟨Below.os h,Below.tape h,Below.output h,h.hsize,fun k hk _=>Below.block h k hk,fun g cs hb=>hb.ext h⟩
theorem Fp.mono (h:Fp M w w')(hm:∀k,k<w.heap.size→M k→M' k):Fp M' w w':=⟨h.os,h.tape,h.output,h.size,fun k hk hn=>h.block k hk fun hM=>hn (hm k hk hM),h.node⟩
theorem Fp.trans (h:Fp M w w')(k:Fp M' w' w'')(hm:∀g,g<w.heap.size→M' g→M g):Fp M w w'':=
 ⟨k.os.trans h.os,k.tape.trans h.tape,k.output.trans h.output,Ap h.size k.size,fun g hg hn=>(k.block g (Bn hg h.size) fun hM=>hn (hm g hg hM)).trans (h.block g hg hn),fun g cs hb=>k.node g cs (h.node g cs hb)⟩
theorem Fp.ext (h:Fp M w w')(k:Al w' w''):Fp M w w'':=h.trans (k.alt M) fun _ _ hM=>hM
theorem Fp.to_ext {w0:World}(h:Fp M w w')(he:Al w0 w)(hM:∀k,k<w0.heap.size→¬M k):Al w0 w':=
 ⟨h.os.trans (Below.os he),h.tape.trans (Below.tape he),h.output.trans (Below.output he),Ap he.hsize h.size,fun k hk=>(h.block k (Bn hk he.hsize) (hM k hk)).trans (Below.block he k hk)⟩
theorem Fp.blk {g t:Nat}{cs:Array Value}(h:Fp M w w')(hb:An w g t cs)(hn:¬M g):An w' g t cs:=(h.block g hb.lt hn).trans hb
theorem An.inj {g t t':Nat}{cs cs':Array Value}(h:An w g t cs)(h':An w g t' cs'):t=t'∧cs=cs':=by
 unfold An at h h';rw[h]at h';injection h' with h';injection h' with e1 e2 e3;exact⟨e2,e1⟩
theorem Fp.of_grown {g t:Nat}{cs:Array Value}(hg:w.grownBy w' (some g))(hb:An w g t cs)(ht:t≠125):Fp (fun k=>k=g) w w':=
 ⟨hg.os,hg.tape,hg.output,hg.size,fun k hk hn=>hg.block k hk fun e=>by injection e with e;exact hn e,fun g' cs' hb'=>hb'.grown hg fun e=>by
  injection e with e;subst e;exact ht (hb.inj hb').1⟩
theorem Fp.set {g t:Nat}{cs:Array Value}(hb:An w g t cs)(ht:t≠125)(i:Nat)(u:Value):Fp (fun k=>k=g) w (w.setCell ⟨g,i,none⟩ u):=Fp.of_grown (Eu w _ u) hb ht
theorem Fp.row {g t:Nat}{cs:Array Value}(hb:An w g t cs)(ht:t≠125)(us:Array Value):Fp (fun k=>k=g) w (w.setRow g us):=
 ⟨rfl,rfl,rfl,by simp[World.setRow],fun k hk hn=>Go.setRow_other w g k us (fun e=>hn e),fun g' cs' hb'=>hb'.setRow_other us fun e=>by
  subst e;exact ht (hb.inj hb').1⟩
theorem Bp.alt (h:Fp M w w'):∀{t:Tr} {a:Option Addr},Bp w a t→Bp w' a t
 |.nil,a,k=>k
 |.node l c r,a,k=>by
  obtain⟨g,la,ra,h1,h2,h3,h4⟩:=k;exact⟨g,la,ra,h1,h.node _ _ h2,Bp.alt h h3,Bp.alt h h4⟩
end
def Ht (F:Nat→Prop)(w:World)(D:World→Prop):Prop:=∀M w',Fp M w w'→(∀k,k<w.heap.size→F k→¬M k)→D w'
section
variable {F F' M:Nat→Prop} {w w':World} {D D':World→Prop}
theorem Ht.here (h:Ht F w D):D w:=h (fun _=>False) w (Fp.refl _ _) fun _ _ _ h=>h
theorem Ht.alt (h:Ht F w D)(ha:Fp M w w')(hF:∀k,k<w.heap.size→F k→¬M k):Ht F w' D:=fun M' w'' ha' hF'=>
 h (fun k=>M k∨(k<w'.heap.size∧M' k)) w'' ((ha.mono fun _ _ h=>.inl h).trans (ha'.mono fun k hk h=>Or.inr ⟨hk,h⟩) fun _ _ h=>h) fun k hk hf h=>h.elim (hF k hk hf) fun⟨h1,h2⟩=>hF' k h1 hf h2
theorem Ht.ext (h:Ht F w D)(he:Al w w'):Ht F w' D:=h.alt (he.alt fun _=>False) fun _ _ _ h=>h
theorem Ht.mono (h:Ht F w D)(hF:∀k,k<w.heap.size→F k→F' k):Ht F' w D:=fun M w' ha hk=>h M w' ha fun k hk' hf=>hk k hk' (hF k hk' hf)
theorem Ht.imp (h:Ht F w D)(hi:∀w,D w→D' w):Ht F w D':=fun M w' ha hk=>hi _ (h M w' ha hk)
theorem Ht.own {b e z n c:Nat}{A:Option Addr}{xs:List Value}(h:Ay w b e z A n c xs)(hF:∀g,(Aj A n c).ownBlock=some g→F g):Ht F w fun w=>Ay w b e z A n c xs:=fun M w' ha hk=>
 Ay.same h fun k hk'=>ha.block k (Ay.blk h k hk').2 (hk k (Ay.blk h k hk').2 (hF k hk'))
theorem Ht.win {b:Nat}(hw:∀w',(∀k,b≤k→k<w.heap.size→w'.heap[k]? = w.heap[k]?)→D w')(hF:∀k,b≤k→k<w.heap.size→F k):Ht F w D:=fun M w' ha hk=>
 hw w' fun k h1 h2=>ha.block k h2 (hk k h2 (hF k h1 h2))
theorem Ht.reg {b:Nat}{v:Value}{l:List Int}(h:Bg w b v l)(hF:∀k,b≤k→k<w.heap.size→F k):Ht F w fun w=>Bg w 0 v l:=Ht.win (b:=b) (fun w' hw=>(h.win hw).lower (Aw _)) hF
theorem Ht.his {b:Nat}{v:Value}{h:Hi}(hh:D3 w b v h)(hF:∀k,b≤k→k<w.heap.size→F k):Ht F w fun w=>D3 w 0 v h:=Ht.win (b:=b) (fun w' hw=>(hh.win hw).lower (Aw _)) hF
end
structure PS where
 tx:List Int
 at_:Int
 mode:Int
 rl:Nat→List Int
 fk:Int
 fa:Int
 part:Pt
 hi:Hi
 past:List (List Int×Int)
 first:List Int
 last:Option (Cm×List Int)
 now:Option (Cm×List Int)
 ask:List Int
 older:Bool
 pend:List Nat
 off:Int
 width:Int
 row:List Int
 rat:Int
 over:Bool
 told:List (Int×List Int)
 vis:List Int
structure SV where
 tr:Option Addr
 first:Option Addr
 r:Nat→Value
 h0:Value
 h3:Value
 h4:Value
 past:Value
 last:Option Addr
 now:Option Addr
 ask:Value
 row:Value
 told:Value
 vis:Value
def L9 (r:Nat→Value):Array Value:=#[r 0,r 1,r 2,r 3,r 4,r 5,r 6,r 7,r 8,r 9,r 10,r 11,r 12,r 13,r 14,r 15,r 16,r 17,r 18,r 19,r 20,r 21,r 22,r 23,r 24,r 25,r 26]
def Jz (v:SV)(h:Hi):Array Value:=#[v.h0,.int .i64 h.most,.int .i64 h.at_,v.h3,v.h4,.bool h.older]
def Ma (c:Cm):Array Value:=#[.int .i64 c.count,.int .i64 c.reg,.int .i64 c.op,.int .i64 c.verb,.int .i64 c.arg]
def nl:Value:=.slice none 0 0
def Ll (v:SV)(s:PS):Array Value:=#[.pointer v.tr,.int .i64 s.at_,.int .i64 s.mode,
 v.r 0,v.r 1,v.r 2,v.r 3,v.r 4,v.r 5,v.r 6,v.r 7,v.r 8,v.r 9,v.r 10,v.r 11,v.r 12,v.r 13,v.r 14,v.r 15,v.r 16,v.r 17,v.r 18,v.r 19,v.r 20,v.r 21,v.r 22,v.r 23,v.r 24,v.r 25,v.r 26,
 .int .i64 s.fk,.int .i64 s.fa,.int .i64 s.part.first,.int .i64 s.part.reg,.int .i64 s.part.op,.int .i64 s.part.second,.int .i64 s.part.wait,
 v.h0,.int .i64 s.hi.most,.int .i64 s.hi.at_,v.h3,v.h4,.bool s.hi.older,v.past,nl,.pointer v.first,.pointer v.last,.pointer v.now,v.ask,.bool s.older,.string (G0 s.pend),.int .i64 s.off,.int .i64 s.width,v.row,.int .i64 s.rat,.bool s.over,v.told,v.vis]
def Ve (w:World):Option Addr→Option (Cm×List Int)→Prop
 |none,none=>True
 |some a,some (c,l)=>∃q y,a=⟨q,0,none⟩∧An w q 112 (Ma c++#[y])∧Bg w 0 y l
 |_,_=>False
def gP (l:List (List Int×Int))(i:Nat):List Int×Int:=l[i]?.getD ([],0)
def Te (w:World)(v:Value)(l:List (List Int×Int)):Prop:=
 ∃A n c xs,v=.slice A n c∧Ay w 0 59 2 A n c xs∧l.length=n∧∀i,i<n→∃a,xs[i*2]? = some (.pointer a)∧xs[i*2+1]? = some (.int .i64 (gP l i).2)∧Bp w a (M6 (gP l i).1)
structure VD (w:World)(v:SV)(s:PS):Prop where
 tr:Bp w v.tr (M6 s.tx)
 first:Bp w v.first (M6 s.first)
 regs:E8 w 0 (L9 v.r) s.rl
 his:D3 w 0 (.agg (Jz v s.hi)) s.hi
 past:Te w v.past s.past
 last:Ve w v.last s.last
 ask:Bg w 0 v.ask s.ask
 row:Bg w 0 v.row s.row
def Py (w:World)(col:Nat→Nat):Option Addr→Option (Cm×List Int)→Prop
 |none,none=>True
 |some a,some (c,l)=>∃q y,a=⟨q,0,none⟩∧col q=2∧An w q 112 (Ma c++#[y])∧Bg w 0 y l∧∀g,y.ownBlock=some g→col g=3
 |_,_=>False
structure yE (w:World)(col:Nat→Nat)(p:Nat)(v:SV)(s:PS):Prop where
 blk:An w p 65 (Ll v s)
 own:col p=7
 dat:Ht (fun k=>col k=1) w fun w=>VD w v s
 now:Py w col v.now s.now
 dom:∀k,col k≠0→k<w.heap.size
def gV (l:List (Int×List Int))(i:Nat):Int×List Int:=l[i]?.getD (0,[])
def Yn (w:World)(xs:List Value)(l:List (Int×List Int)):Prop:=∀i,i<l.length→∃y,xs[i*2]? = some (.int .i64 (gV l i).1)∧xs[i*2+1]? = some y∧Bg w 0 y (gV l i).2
def qA (w:World)(col:Nat→Nat)(v:Value)(l:List (Int×List Int)):Prop:=
 ∃A n c xs,v=.slice A n c∧Ay w 0 31 2 A n c xs∧l.length=n∧(∀g,v.ownBlock=some g→col g=4)∧Ht (fun k=>col k=5) w fun w=>Yn w xs l
def pZ (w:World)(col:Nat→Nat)(v:Value)(l:List Int):Prop:=∃A n c,v=.slice A n c∧Av w 0 A n c l∧∀g,v.ownBlock=some g→col g=6
structure Db (w:World)(col:Nat→Nat)(p:Nat)(v:SV)(s:PS):Prop where
 ses:yE w col p v s
 told:qA w col v.told s.told
 vis:pZ w col v.vis s.vis
structure Kp (w:World)(col:Nat→Nat)(w':World)(col':Nat→Nat):Prop where
 alt:Fp (fun k=>col k≠0∧col k≠1) w w'
 sub:∀k,k<w.heap.size→col' k≠0→col k≠0
 one:∀k,k<w.heap.size→col k=1→col' k=1:=by exact fun _ _ h=>h
theorem Kp.refl (w:World)(col:Nat→Nat):Kp w col w col:=⟨Fp.refl _ _,fun _ _ h=>h,fun _ _ h=>h⟩
theorem Kp.trans {col c1 c2:Nat→Nat}(h:Kp w col w1 c1)(k:Kp w1 c1 w2 c2):Kp w col w2 c2:=
 ⟨h.1.trans k.1 fun g hg hc=>⟨h.2 g hg hc.1,fun e=>hc.2 (h.3 g hg e)⟩,fun g hg hc=>h.2 g hg (k.2 g (Bn hg h.1.size) hc),fun g hg e=>k.3 g (Bn hg h.1.size) (h.3 g hg e)⟩
def Br (p:Nat)(w:World)(col:Nat→Nat)(s':PS)(w':World):Prop:=∃col' v',Db w' col' p v' s'∧Kp w col w' col'
theorem Br.trans {col c1:Nat→Nat}{s':PS}(h:Kp w col w1 c1)(k:Br p w1 c1 s' w2):Br p w col s' w2:=
 let ⟨col',v',h1,h2⟩:=k;⟨col',v',h1,h.trans h2⟩
section
variable {M:Nat→Prop} {w w':World} {col col':Nat→Nat} {p:Nat} {v v':SV} {s s':PS}
theorem Ht.turn {c:Nat}{D:World→Prop}(h:Ht (fun k=>col k=c) w D)(ha:Fp M w w')(hM:∀k,k<w.heap.size→M k→col k≠c)(ho:∀k,k<w.heap.size→col' k=col k):Ht (fun k=>col' k=c) w' D:=
 ((h.mono (F':=fun k=>k<w.heap.size∧col k=c) fun k h1 h2=>⟨h1,h2⟩).alt ha fun k h1 h2 h3=>hM k h1 h3 h2.2).mono fun k _ h2=>(ho k h2.1).trans h2.2
theorem Vp {c n q:Nat}{A:Option Addr}{l:List Int}(h:Av w 0 A n q l)(ha:Fp M w w')(hM:∀k,k<w.heap.size→M k→col k≠c)(hc:∀g,(Aj A n q).ownBlock=some g→col g=c):Av w' 0 A n q l:=
 Ay.same h fun k hk=>ha.block k (Ay.blk h k hk).2 fun hm=>hM k (Ay.blk h k hk).2 hm (hc k hk)
theorem Ts {c:Nat}{y:Value}{l:List Int}(h:Bg w 0 y l)(ha:Fp M w w')(hM:∀k,k<w.heap.size→M k→col k≠c)(hc:∀g,y.ownBlock=some g→col g=c):Bg w' 0 y l:=by
 obtain⟨A,n,k,rfl,h1,h2⟩:=h;exact⟨A,n,k,rfl,Vp h1 ha hM hc,h2⟩
theorem Py.turn {a:Option Addr}{o:Option (Cm×List Int)}(h:Py w col a o)(ha:Fp M w w')(hM:∀k,k<w.heap.size→M k→col k≠2∧col k≠3)(ho:∀k,k<w.heap.size→col' k=col k):Py w' col' a o:=by
 rcases a with _|a<;>rcases o with _|⟨c,l⟩
 ·trivial
 ·exact h
 ·exact h
 ·obtain⟨q,y,rfl,h1,h2,h3,h4⟩:=h
  exact⟨q,y,rfl,(ho q h2.lt).trans h1,ha.blk h2 fun hm=>(hM q h2.lt hm).1 h1,Ts h3 ha (fun k h1 h2=>(hM k h1 h2).2) h4,fun g hg=>(ho g (h3.blk g hg).2).trans (h4 g hg)⟩
theorem qA.turn {x:Value}{l:List (Int×List Int)}(h:qA w col x l)(ha:Fp M w w')(hM:∀k,k<w.heap.size→M k→col k≠4∧col k≠5)(ho:∀k,k<w.heap.size→col' k=col k):qA w' col' x l:=by
 obtain⟨A,n,c,xs,rfl,h1,h2,h3,h4⟩:=h;exact⟨A,n,c,xs,rfl,Ay.same h1 fun k hk=>ha.block k (Ay.blk h1 k hk).2 fun hm=>(hM k (Ay.blk h1 k hk).2 hm).1 (h3 k hk),h2,fun g hg=>(ho g (Ay.blk h1 g hg).2).trans (h3 g hg),h4.turn ha (fun k h1 h2=>(hM k h1 h2).2) ho⟩
theorem pZ.turn {x:Value}{l:List Int}(h:pZ w col x l)(ha:Fp M w w')(hM:∀k,k<w.heap.size→M k→col k≠6)(ho:∀k,k<w.heap.size→col' k=col k):pZ w' col' x l:=by
 obtain⟨A,n,c,rfl,h1,h2⟩:=h;exact⟨A,n,c,rfl,Vp h1 ha hM h2,fun g hg=>(ho g (Ay.blk h1 g hg).2).trans (h2 g hg)⟩
theorem yE.lt (h:yE w col p v s){k:Nat}(hk:w.heap.size≤k):col k=0:=Decidable.byContradiction fun hn=>absurd (h.dom k hn) (by omega)
theorem Db.put (h:Db w col p v s)(ha:Fp (fun k=>k=p) w w')(hb:An w' p 65 (Ll v' s'))(hd:Ht (fun k=>col k=1) w' fun w=>VD w v' s')
 (e1:v'.now=v.now:=by rfl) (e2:s'.now=s.now:=by rfl) (e3:v'.told=v.told:=by rfl) (e4:s'.told=s.told:=by rfl) (e5:v'.vis=v.vis:=by rfl) (e6:s'.vis=s.vis:=by rfl):Db w' col p v' s'∧Kp w col w' col:=by
 have h7:=h.ses.own;have hm:∀c,c≠7→∀k,k<w.heap.size→k=p→col k≠c:=fun c hc k _ e=>by rw[e,h7];exact fun e=>hc e.symm
 refine⟨⟨⟨hb,h7,hd,?_,fun k hk=>Bn (h.ses.dom k hk) ha.size⟩,?_,?_⟩,ha.mono fun k _ e=>by rw[e,h7];decide,fun _ _ h=>h,fun _ _ h=>h⟩
 ·rw[e1,e2];exact h.ses.now.turn ha (fun k h1 h2=>⟨hm 2 (by decide) k h1 h2,hm 3 (by decide) k h1 h2⟩) fun _ _=>rfl
 ·rw[e3,e4];exact h.told.turn ha (fun k h1 h2=>⟨hm 4 (by decide) k h1 h2,hm 5 (by decide) k h1 h2⟩) fun _ _=>rfl
 ·rw[e5,e6];exact h.vis.turn ha (hm 6 (by decide)) fun _ _=>rfl
theorem Db.old (h:Db w col p v s)(ha:Fp (fun k=>k=p) w w'):Ht (fun k=>col k=1) w' fun w=>VD w v s:=
 h.ses.dat.turn ha (fun k _ e=>by rw[e,h.ses.own];decide) fun _ _=>rfl
theorem Ht.trn {D:World→Prop}(h:Ht (fun k=>col k=1) w D)(t:Kp w col w' col'):Ht (fun k=>col' k=1) w' D:=
 ((h.mono (F':=fun k=>k<w.heap.size∧col k=1) fun k h1 h2=>⟨h1,h2⟩).alt t.1 fun k h1 h2 h3=>h3.2 h2.2).mono fun k _ h2=>t.3 k h2.1 h2.2
theorem Db.ext (h:Db w col p v s)(he:Al w w'):Db w' col p v s:=
 (h.put (he.alt _) (h.ses.blk.ext he) (h.old (he.alt _))).1
end
theorem rS:(Tryz.prog.info? 31).map (fun i=>(i.zero,i.size,i.bytes))=some (some (.agg #[.int .i64 0,.slice none 0 0]),2,32):=by kernel_rfl
def pY (w:World):World:={ w with heap:=#[] }
theorem U5 (w:World):Al (pY w) w:=⟨rfl,rfl,rfl,Aw _,fun k hk=>absurd hk (Nat.not_lt_zero k)⟩
theorem cZ (h:w.grownBy w' none):Al w w':=⟨h.os,h.tape,h.output,h.size,fun k hk=>h.block k hk nofun⟩
theorem Fp.of_own {b e z n c:Nat}{xs:List Value}(h:Ay w b e z A n c xs)(hg:w.grownBy w' (Aj A n c).ownBlock)(he:e≠125):Fp (fun k=>(Aj A n c).ownBlock=some k) w w':=by
 rcases h.2 with⟨hv,_⟩|⟨g,cap,cur,hv,_,hb,_⟩
 ·rw[hv]at hg ⊢;exact(cZ hg).alt _
 ·rw[hv]at hg ⊢;exact(Fp.of_grown hg hb he).mono fun k _ e=>congrArg some e.symm
theorem Sn {v:SV}{s:PS}{k:Int}{y:Value}(h:Db w col p v s)(hy:Ht (fun k=>col k=5) w fun w=>Bg w 0 y l)(hq:s.told.length≤1000000000000):
 Calls Tryz.prog 26 #[.pointer (some ⟨p,0,none⟩),.int .i64 k,y] w fun e w'=>e=.returned (.tuple #[])∧Br p w col { s with told:=s.told++[(k,l)] } w':=by
 obtain⟨i0,hi,hz0,hz1,hz2⟩:=info_parts rS;obtain⟨A,n,c,xs,hv,ho,hn,hg,hd⟩:=h.told;have f56:=h.ses.blk.frozen 56;have c56:w.cell? ⟨p,56,none⟩=some (.slice A n c):=(h.ses.blk.cell 56).trans (congrArg some hv);obtain⟨ya,yn,yc,rfl,_⟩:=hy.here;have hlt:=h.ses.blk.lt;have hn2:n≤1000000000000:=by omega
 have H:=A4 h;have HY:=A4 hy;have hxx:=U5 w;have HO:=A4 ho;rw[hv]at hg;have HT:=A4 (Be hg (Be hn hd));clear h hy hv hg hd hn hq ho;go_enter Tryz.func26,Tryz.ntmps26
 have hown:=HO.out;go_wp2_with (at_builtin;refine Ci rfl (.tmp 10) (.tmp 14) 26 rfl (pY w) 0 31 i0 (.agg #[.int .i64 0,.slice none 0 0]) 2 32 Tryz.underlying26 hi hz0 hz1 hz2 rfl (by decide) A n c _ rfl hown #[.int .i64 k,.slice ya yn yc] rfl ?_ rfl ?_ ?_ hxx (Nat.le_refl _) (Aw _) ?_)
 ·exact⟨rfl,rfl⟩
 ·unfold maxLen;omega
 ·omega
 ·intro A2 c2 w3 hO2 hgr hor hx3
  have h:=H.out;have h7:=h.ses.own;obtain⟨hg,hn,hd⟩:=HT.out;have ho:=HO.out;have hnp:(Aj A n c).ownBlock≠some p:=fun e=>by have:=hg p e;omega
  have hnp2:(Aj A2 (n+1) c2).ownBlock≠some p:=fun e=>by
   rcases hor with e'|⟨g,h1,h2⟩
   ·exact hnp (e'.symm.trans e)
   ·rw[h2]at e;injection e with e;omega
  have hb3:=h.ses.blk.grown hgr fun e=>hnp e.symm
  have k56:w3.cell? ⟨p,56,none⟩=some v.told:=hb3.cell 56;have f3:=hb3.frozen 56;have hb4:=hb3.set_ 56 (.slice A2 (n+1) c2);have ha3:=Fp.of_own ho hgr (by decide)
  have ha4:=(ha3.mono (M':=fun k=>(Aj A n c).ownBlock=some k∨k=p) fun k _ e=>.inl e).trans (Fp.set hb3 (by decide) 56 (.slice A2 (n+1) c2)) fun g _ e=>.inr e
  have hO4:Ay (w3.setCell ⟨p,56,none⟩ (.slice A2 (n+1) c2)) 0 31 2 A2 (n+1) c2 (xs++[.int .i64 k,.slice ya yn yc]):=Ay.same hO2 fun g hg=>Cd fun e=>hnp2 (by rw[hg];exact congrArg some e)
  have hres:Hid (Br p w col { s with told:=s.told++[(k,l)] } (w3.setCell ⟨p,56,none⟩ (.slice A2 (n+1) c2))):=A4 (by
   have hold:∀g,g<w.heap.size→(if(Aj A2 (n+1) c2).ownBlock=some g then 4 else col g)=col g:=fun g hg'=>by
    split
    ·rename_i e
     rcases hor with e'|⟨g',h1,h2⟩
     ·exact(hg g (e'.symm.trans e)).symm
     ·rw[h2]at e;injection e with e;omega
    ·rfl
   have hm:∀d,d≠4→d≠7→∀g,g<w.heap.size→((Aj A n c).ownBlock=some g∨g=p)→col g≠d:=fun d h1 h2 g _ e=>by
    exact I89
   refine⟨fun g=>if(Aj A2 (n+1) c2).ownBlock=some g then 4 else col g,{ v with told:=.slice A2 (n+1) c2 },⟨⟨hb4,(if_neg hnp2).trans h7,(h.ses.dat.turn ha4 (hm 1 (by decide) (by decide)) hold).imp fun _ h=>⟨h.1,h.2,h.3,h.4,h.5,h.6,h.7,h.8⟩,h.ses.now.turn ha4 (fun g h1 h2=>⟨hm 2 (by decide) (by decide) g h1 h2,hm 3 (by decide) (by decide) g h1 h2⟩) hold,fun g hg'=>?_⟩,?_,h.vis.turn ha4 (hm 6 (by decide) (by decide)) hold⟩,ha4.mono fun g h1 h2=>?_,fun g h1 h2=>by rw[←hold g h1];exact h2,fun g h1 e=>(hold g h1).trans e⟩
   ·by_cases e:(Aj A2 (n+1) c2).ownBlock=some g
    ·exact(Ay.blk hO4 g e).2
    ·have hg':(if(Aj A2 (n+1) c2).ownBlock=some g then 4 else col g)≠0:=hg'
     exact I75
   ·have hy5:=HY.out.turn ha4 (hm 5 (by decide) (by decide)) hold
    have hd5:=hd.turn ha4 (hm 5 (by decide) (by decide)) hold
    have hxl:=ho.len;refine⟨A2,n+1,c2,_,rfl,hO4,by simp[hn],fun g e=>if_pos e,fun M w' ha hk i hi=>?_⟩
    have h1:=hd5 M w' ha hk;have h2:=hy5 M w' ha hk;simp only[List.length_append,List.length_singleton]at hi;by_cases e:i<s.told.length
    ·obtain⟨y,k1,k2,k3⟩:=h1 i e
     have hgv:gV (s.told++[(k,l)]) i=gV s.told i:=by unfold gV;rw[Bu e]
     rw[hgv];exact⟨y,by rw[Bu (by omega)];exact k1,by rw[Bu (by omega)];exact k2,k3⟩
    ·obtain rfl:i=s.told.length:=by omega
     have hgv:gV (s.told++[(k,l)]) s.told.length=(k,l):=by unfold gV;simp
     rw[hgv];exact⟨_,by rw[Ca (by omega),show s.told.length*2-xs.length=0 by omega];rfl,by rw[Ca (by omega),show s.told.length*2+1-xs.length=1 by omega];rfl,h2⟩
   ·rcases h2 with e|rfl
    ·rw[hg g e];decide
    ·rw[h7];decide)
  clear hO2 hgr hor hx3 hb3 hb4 ha3 ha4 hO4 h hd ho hn;go_wp2_with fail
  go_end0
  exact⟨rfl,hres.out⟩
theorem Js {v:SV}{s:PS}(h:Db w col p v s)(hq:s.told.length≤1000000000000):
 Calls Tryz.prog 31 #[.pointer (some ⟨p,0,none⟩)] w fun e w'=>e=.returned (.tuple #[])∧Br p w col { s with told:=s.told++[(1,[])] } w':=by
 have HT:=A4 (Sn (k:=1) (y:=.slice none 0 0) (l:=[]) h (fun _ w' _ _=>Bg.nil w' 0) hq)
 clear h hq;go_enter Tryz.func31,Tryz.ntmps31
 go_wp2_with fail
 refine HT.out.mono ?_
 rintro e w1 ⟨rfl,h1⟩;have H1:=A4 h1;clear h1 HT;go_wp2_with fail
 go_end0
 exact⟨rfl,H1.out⟩
theorem aQ {p n c:Nat}{a:Int}{v:SV}{s:PS}(h:Db w col p v s)(hl:Bi w A n c l)(hn:n≤4096):
 Calls Tryz.prog 42 #[.pointer (some ⟨p,0,none⟩),.agg #[.slice A n c,.int .i64 a]] w fun e w'=>e=.returned (.tuple #[])∧∃q,Db w' col p { v with tr:=q } { s with tx:=l,at_:=a }∧Kp w col w' col:=by
 have hx:=Al.alloc w (.cells #[.slice A n c,.int .i64 a] 34);have hb:=An.new w 34 #[.slice A n c,.int .i64 a];have HO:=A4 (vC (hl.ext hx));have hlt:=h.ses.blk.lt;have H:=A4 h;have HB:=A4 hb;have HX:=A4 hx;have he:pX l=0:=by unfold pX;rw[if_pos (by rw[hl.len];exact hn)]
 rw[he]at HO;clear h hb hx hl he;go_enter Tryz.func42,Tryz.ntmps42
 go_wp2_with fail
 refine HO.out.mono ?_
 rintro e w1 ⟨q,rfl,ht,he1⟩;have hx1:=HX.out.trans he1;have h1:=H.out.ses.blk.ext hx1;have c1:w1.cell? ⟨w.heap.size,1,none⟩=some (.int .i64 a):=(HB.out.ext he1).cell 1;have n1:¬w.heap.size=p:=by omega
 have n2:¬p=w.heap.size:=by omega
 have d0:w1.cell? ⟨p,0,none⟩=some (.pointer v.tr):=h1.cell 0;have d1:w1.cell? ⟨p,1,none⟩=some (.int .i64 s.at_):=h1.cell 1;have f0:=h1.frozen 0;have f1:=h1.frozen 1;have HR:Hid (Db ((w1.setCell ⟨p,0,none⟩ (.pointer q)).setCell ⟨p,1,none⟩ (.int .i64 a)) col p { v with tr:=q } { s with tx:=l,at_:=a }∧Kp w col ((w1.setCell ⟨p,0,none⟩ (.pointer q)).setCell ⟨p,1,none⟩ (.int .i64 a)) col):=A4 (by
  have ha:=((hx1.alt (fun k=>k=p)).trans (Fp.set h1 (by decide) 0 (.pointer q)) fun _ _ h=>h).trans (Fp.set (h1.set_ 0 (.pointer q)) (by decide) 1 (.int .i64 a)) fun _ _ h=>h
  refine H.out.put ha ((h1.set_ 0 (.pointer q)).set_ 1 (.int .i64 a)) fun M w' h2 h3=>?_
  have hd:=H.out.old ha M w' h2 h3;exact⟨(Bp.alt (Fp.set (h1.set_ 0 (.pointer q)) (by decide) 1 (.int .i64 a)) (Bp.alt (Fp.set h1 (by decide) 0 (.pointer q)) ht)).alt h2,hd.2,hd.3,hd.4,hd.5,hd.6,hd.7,hd.8⟩)
 clear HO HB HX ht he1 hx1 h1 H;go_wp2_with fail
 go_end0
 exact⟨rfl,q,HR.out⟩
structure Dh (w0 w:World)(p t:Nat)(cs:Array Value):Prop where
 alt:Fp (fun k=>k=p) w0 w
 blk:An w p t cs
theorem Dh.start (he:Al w0 w)(hb:An w p t cs):Dh w0 w p t cs:=⟨he.alt _,hb⟩
theorem Dh.set (h:Dh w0 w p t cs)(i:Nat)(u:Value)(ht:t≠125:=by decide):Dh w0 (w.setCell ⟨p,i,none⟩ u) p t (cs.setIfInBounds i u):=
 ⟨h.alt.trans (Fp.set h.blk ht i u) fun _ _ h=>h,h.blk.set_ i u⟩
theorem Dh.row (h:Dh w0 w p t cs)(us:Array Value)(ht:t≠125:=by decide):Dh w0 (w.setRow p us) p t us:=
 ⟨h.alt.trans (Fp.row h.blk ht us) fun _ _ h=>h,h.blk.setRow us⟩
theorem Dh.ext {w0 w w':World}(h:Dh w0 w p t cs)(he:Al w w'):Dh w0 w' p t cs:=⟨h.alt.ext he,h.blk.ext he⟩
theorem Dh.to {cs cs':Array Value}(h:Dh w0 w p t cs)(hc:cs=cs'):An w p t cs':=hc▸h.blk
theorem Db.chain {v:SV}{s:PS}(h:Db w col p v s)(c:Dh w w' p 65 cs)(v':SV)(s':PS)(hc:cs=Ll v' s')(hd:∀w'',Fp (fun k=>k=p) w w'→(∀x t,Bp w x t→Bp w'' x t)→VD w'' v s→VD w'' v' s')
 (e1:v'.now=v.now:=by rfl) (e2:s'.now=s.now:=by rfl) (e3:v'.told=v.told:=by rfl) (e4:s'.told=s.told:=by rfl) (e5:v'.vis=v.vis:=by rfl) (e6:s'.vis=s.vis:=by rfl):Db w' col p v' s'∧Kp w col w' col:=
 h.put c.alt (hc▸c.blk) (fun M w'' h2 h3=>hd w'' c.alt (fun x t ht=>(ht.alt c.alt).alt h2) (h.old c.alt M w'' h2 h3)) e1 e2 e3 e4 e5 e6
theorem Z3 (w:World):Te w nl []:=⟨none,0,0,[],rfl,Ay.nil _ _ _ _,rfl,fun i hi=>absurd hi (Nat.not_lt_zero i)⟩
def Yg (s:PS)(l:List Int)(md:Int):PS:={ s with tx:=l,at_:=cond (md==0) (max 0 ((l.length:Int)-1)) 0,first:=l,past:=[],mode:=md,part:=Pt.zero }
theorem kA {v:SV}{s:PS}(h:Db w col p v s)(md:Int):
 Db (((((((((w.setCell ⟨p,45,none⟩ (.pointer v.tr)).setCell ⟨p,43,none⟩ nl).setCell ⟨p,44,none⟩ nl).setCell ⟨p,2,none⟩ (.int .i64 md)).setCell ⟨p,32,none⟩ (.int .i64 0)).setCell ⟨p,33,none⟩ (.int .i64 0)).setCell ⟨p,34,none⟩ (.int .i64 0)).setCell ⟨p,35,none⟩ (.int .i64 0)).setCell ⟨p,36,none⟩ (.int .i64 0)) col p
  { v with first:=v.tr,past:=nl } { s with first:=s.tx,past:=[],mode:=md,part:=Pt.zero }∧
 Kp w col (((((((((w.setCell ⟨p,45,none⟩ (.pointer v.tr)).setCell ⟨p,43,none⟩ nl).setCell ⟨p,44,none⟩ nl).setCell ⟨p,2,none⟩ (.int .i64 md)).setCell ⟨p,32,none⟩ (.int .i64 0)).setCell ⟨p,33,none⟩ (.int .i64 0)).setCell ⟨p,34,none⟩ (.int .i64 0)).setCell ⟨p,35,none⟩ (.int .i64 0)).setCell ⟨p,36,none⟩ (.int .i64 0)) col:=
 h.chain ((((((((((Dh.start (Al.refl w) h.ses.blk).set 45 (.pointer v.tr)).set 43 nl).set 44 nl).set 2 (.int .i64 md)).set 32 (.int .i64 0)).set 33 (.int .i64 0)).set 34 (.int .i64 0)).set 35 (.int .i64 0)).set 36 (.int .i64 0)) _ _ (by kernel_rfl) fun w'' _ ht hd=>⟨hd.1,hd.1,hd.3,hd.4,Z3 _,hd.6,hd.7,hd.8⟩
theorem Mv {p n c:Nat}{md:Int}{v:SV}{s:PS}(h:Db w col p v s)(hl:Bi w A n c l)(hn:n≤4096):
 Calls Tryz.prog 27 #[.pointer (some ⟨p,0,none⟩),.slice A n c,.int .i64 md] w fun e w'=>e=.returned (.tuple #[])∧Br p w col (Yg s l md) w':=by
 have HS:∀a:Int,Hid (Calls Tryz.prog 42 #[.pointer (some ⟨p,0,none⟩),.agg #[.slice A n c,.int .i64 a]] w fun e w'=>e=.returned (.tuple #[])∧∃q,Db w' col p { v with tr:=q } { s with tx:=l,at_:=a }∧Kp w col w' col):=fun a=>A4 (aQ h hl hn)
 have hlen:=A4 hl.len;clear h hl;obtain⟨b,hb⟩:∃b,(md==0)=b:=⟨_,rfl⟩;have H0:Hid (Yg s l md={ s with tx:=l,at_:=cond b (max 0 ((n:Int)-1)) 0,first:=l,past:=[],mode:=md,part:=Pt.zero }):=A4 (by unfold Yg;rw[hlen.out,hb])
 cases b
 all_goals
  go_enter Tryz.func27,Tryz.ntmps27
  go_wp2_with fail
  refine(HS _).out.mono ?_
  rintro e w1 ⟨rfl,q,h1,h2⟩;have hb:=h1.ses.blk;have fz:=hb.frozen;have d0:w1.cell? ⟨p,0,none⟩=some (.pointer q):=hb.cell 0;have d2:w1.cell? ⟨p,2,none⟩=some (.int .i64 s.mode):=hb.cell 2;have d32:w1.cell? ⟨p,32,none⟩=some (.int .i64 s.part.first):=hb.cell 32;have d33:w1.cell? ⟨p,33,none⟩=some (.int .i64 s.part.reg):=hb.cell 33;have d34:w1.cell? ⟨p,34,none⟩=some (.int .i64 s.part.op):=hb.cell 34;have d35:w1.cell? ⟨p,35,none⟩=some (.int .i64 s.part.second):=hb.cell 35;have d36:w1.cell? ⟨p,36,none⟩=some (.int .i64 s.part.wait):=hb.cell 36;have d43:w1.cell? ⟨p,43,none⟩=some v.past:=hb.cell 43;have d44:w1.cell? ⟨p,44,none⟩=some nl:=hb.cell 44;have d45:w1.cell? ⟨p,45,none⟩=some (.pointer v.first):=hb.cell 45;have HR:=A4 (kA h1 md);have HT:=A4 h2;clear h1 h2 hb;go_wp2_with fail
  go_end0
  rw[H0.out];exact⟨rfl,_,_,HR.out.1,HT.out.trans HR.out.2⟩
theorem Z6 {v v':SV}{s s':PS}{a:Addr}(h:Db w col p v s)(ha:v.now=some a)(hc:Fp (fun k=>k=p) w w')(hb:An w' p 65 (Ll v' s'))
 (hd:∀w'',Fp (fun k=>k=p) w w'→(∀x t,Bp w x t→Bp w'' x t)→Ve w'' v.now s.now→VD w'' v s→VD w'' v' s')
 (e1:v'.now=none:=by rfl) (e2:s'.now=none:=by rfl) (e3:v'.told=v.told:=by rfl) (e4:s'.told=s.told:=by rfl) (e5:v'.vis=v.vis:=by rfl) (e6:s'.vis=s.vis:=by rfl):Br p w col s' w':=by
 have h7:=h.ses.own;have hm:∀c,c≠7→∀k,k<w.heap.size→k=p→col k≠c:=fun c hc k _ e=>by rw[e,h7];exact fun e=>hc e.symm
 have hto:=h.told.turn hc (fun k h1 h2=>⟨hm 4 (by decide) k h1 h2,hm 5 (by decide) k h1 h2⟩) fun _ _=>rfl
 have hvi:=h.vis.turn hc (hm 6 (by decide)) fun _ _=>rfl
 obtain⟨c',hc'⟩:∃c':Nat→Nat,c'=fun k=>if col k=2∨col k=3 then 1 else col k:=⟨_,rfl⟩
 have hz:∀k x,x≠1→x≠2→x≠3→(c' k=x↔col k=x):=fun k x h1 h2 h3=>by
  rw[hc']
  show(if _ then _ else _)=x↔_
  split
  ·rename_i h;constructor
   ·intro e;exact absurd e.symm h1
   ·intro e;rcases h with h|h<;>omega
  ·rfl
 have h1:∀k,c' k=1↔(col k=1∨col k=2∨col k=3):=fun k=>by
  rw[hc']
  show(if _ then _ else _)=1↔_
  split
  ·rename_i h;simp;omega
  ·rename_i h;omega
 have hF:∀k,k<w'.heap.size→col k=1→c' k=1:=fun k _ e=>(h1 k).2 (.inl e)
 have hnow:Ht (fun k=>c' k=1) w' fun w=>Ve w v.now s.now:=by
  have hn:=h.ses.now.turn hc (fun k h1 h2=>⟨hm 2 (by decide) k h1 h2,hm 3 (by decide) k h1 h2⟩) fun _ _=>rfl
  rw[ha]at hn ⊢;rcases hs:s.now with _|⟨c,l⟩
  ·rw[hs]at hn;exact absurd hn (fun h=>h)
  ·rw[hs]at hn
   obtain⟨q,y,rfl,g1,g2,g3,g4⟩:=hn;intro M w'' ka kk;exact⟨q,y,rfl,ka.blk g2 (kk q g2.lt ((h1 q).2 (.inr (.inl g1)))),Ts (col:=c') g3 ka (fun k e1 e2 e3=>kk k e1 e3 e2) fun g hg=>(h1 g).2 (.inr (.inr (g4 g hg)))⟩
 refine⟨c',v',⟨⟨hb,(hz p 7 (by decide) (by decide) (by decide)).2 h7,fun M w'' ka kk=>?_,by rw[e1,e2];trivial,fun k hk=>?_⟩,?_,?_⟩,hc.mono fun k _ e=>by rw[e,h7];decide,fun k _ hk=>?_,fun k _ e=>(h1 k).2 (.inl e)⟩
 ·exact hd w'' hc (fun x t ht=>(ht.alt hc).alt ka) (hnow M w'' ka kk) (h.old hc M w'' ka fun k e1 e2=>kk k e1 ((h1 k).2 (.inl e2)))
 ·refine Nat.lt_of_lt_of_le (h.ses.dom k fun e=>hk ((hz k 0 (by decide) (by decide) (by decide)).2 e)) hc.size
 ·rw[e3,e4]
  obtain⟨A,n,c,xs,hx,k1,k2,k3,k4⟩:=hto;exact⟨A,n,c,xs,hx,k1,k2,fun g hg=>(hz g 4 (by decide) (by decide) (by decide)).2 (k3 g hg),k4.mono fun k _ e=>(hz k 5 (by decide) (by decide) (by decide)).2 e⟩
 ·rw[e5,e6]
  obtain⟨A,n,c,hx,k1,k2⟩:=hvi;exact⟨A,n,c,hx,k1,fun g hg=>(hz g 6 (by decide) (by decide) (by decide)).2 (k2 g hg)⟩
 ·exact fun e=>hk ((hz k 0 (by decide) (by decide) (by decide)).2 e)
theorem nG {p a:Nat}{v:SV}{s:PS}(h:Db w col p v s)(hat:s.at_=a)(ha:a≤100000):
 Calls Tryz.prog 47 #[.pointer (some ⟨p,0,none⟩)] w fun e w'=>e=.returned (.tuple #[])∧Br p w col { s with at_:=max 0 ((a:Int)-1),mode:=0,last:=s.now.or s.last,now:=none } w':=by
 have hb:=h.ses.blk;have fz:=hb.frozen;have d1:w.cell? ⟨p,1,none⟩=some (.int .i64 a):=by rw[←hat];exact hb.cell 1
 have d2:w.cell? ⟨p,2,none⟩=some (.int .i64 s.mode):=hb.cell 2;have d46:w.cell? ⟨p,46,none⟩=some (.pointer v.last):=hb.cell 46;have d47:w.cell? ⟨p,47,none⟩=some (.pointer v.now):=hb.cell 47;have H:=A4 h;have c2:=((Dh.start (Al.refl w) hb).set 1 (.int .i64 (max 0 ((a:Int)-1)))).set 2 (.int .i64 0);cases hn:v.now with
 |none=>
  have hsn:s.now=none:=by
   have:=h.ses.now;rw[hn]at this;rcases hs:s.now with _|⟨c,l⟩
   ·rfl
   ·rw[hs]at this;exact absurd this (fun h=>h)
  have HR:=A4 (h.chain c2 v { s with at_:=max 0 ((a:Int)-1),mode:=0,last:=s.now.or s.last,now:=none } (by kernel_rfl) (fun w'' _ ht hd=>⟨hd.1,hd.2,hd.3,hd.4,hd.5,by rw[hsn];exact hd.6,hd.7,hd.8⟩) rfl hsn.symm)
  clear c2 h hb hat;go_enter Tryz.func47,Tryz.ntmps47
  exact I129
 |some q=>
  have hsn:(s.now.or s.last)=s.now:=by
   have:=h.ses.now;rw[hn]at this;rcases hs:s.now with _|⟨c,l⟩
   ·rw[hs]at this;exact absurd this (fun h=>h)
   ·rfl
  have c3:=(c2.set 46 (.pointer (some q))).set 47 (.pointer none);have HR:=A4 (Z6 (v':={ v with last:=some q,now:=none }) (s':={ s with at_:=max 0 ((a:Int)-1),mode:=0,last:=s.now.or s.last,now:=none }) h hn c3.alt (c3.to (by kernel_rfl)) (fun w'' _ ht hc hd=>⟨hd.1,hd.2,hd.3,hd.4,hd.5,by rw[hsn];rw[hn]at hc;exact hc,hd.7,hd.8⟩))
  clear c2 c3 h hb hat;go_enter Tryz.func47,Tryz.ntmps47
  go_wp2_with fail
  go_end0
  exact⟨rfl,HR.out⟩
end
