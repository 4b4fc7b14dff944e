/-
  Part ZViA.
-/
import Derived.Test.YtkaefdmhlmlhbaaGreatZSeg
import Derived.Test.YtkaefdmhlmlhbaaGreatZHisA
import Derived.Test.YtkaefdmhlmlhbaaGreatZRopeT
import Derived.Test.YtkaefdmhlmlhbaaGreatZUtfA
set_option maxRecDepth 100000
set_option maxHeartbeats 16000000
set_option linter.unusedVariables false
set_option linter.unusedSimpArgs false
namespace Go.Proofs.YtkaefdmhlmlhbaaGreat
open Go.RowKit
open _root_.Go.Proofs.Tryz
open _root_.Nat renaming le_trans→Ar,lt_of_lt_of_le→Bo,zero_le→B8
open Value renaming slice→Ak
open _root_.And renaming intro→Au
open _root_.List renaming getElem?_append_left→Bs,getElem?_append_right→Bx
section
variable {col:Nat→Nat}{cs:Array Value}{w w' w0 w1 w2:World}{A:Option Addr}{p t:Nat}{l:List Int}
structure Gw (M:Nat→Prop)(w w':World):Prop where
 os:w'.os=w.os
 tape:w'.tape=w.tape
 output:w'.output=w.output
 size:w.heap.size≤w'.heap.size
 block:∀k,k<w.heap.size→¬M k→w'.heap[k]? = w.heap[k]?
 node:∀g cs,Aq w g 154 cs→Aq w' g 154 cs
section
variable {M M':Nat→Prop} {w w' w'':World}
theorem Gw.refl (M:Nat→Prop)(w:World):Gw M w w:=⟨rfl,rfl,rfl,Nat.le_refl _,fun _ _ _=>rfl,fun _ _ h=>h⟩
theorem An.alt (h:An w w')(M:Nat→Prop):Gw M w w':=⟨Below.os h,Below.tape h,Below.output h,h.hsize,fun k hk _=>Below.block h k hk,fun g cs hb=>hb.ext h⟩
theorem Gw.mono (h:Gw M w w')(hm:∀k,k<w.heap.size→M k→M' k):Gw M' w w':=⟨h.os,h.tape,h.output,h.size,fun k hk hn=>h.block k hk fun hM=>hn (hm k hk hM),h.node⟩
theorem Gw.trans (h:Gw M w w')(k:Gw M' w' w'')(hm:∀g,g<w.heap.size→M' g→M g):Gw M w w'':=
 ⟨k.os.trans h.os,k.tape.trans h.tape,k.output.trans h.output,Ar h.size k.size,fun g hg hn=>(k.block g (Bo hg h.size) fun hM=>hn (hm g hg hM)).trans (h.block g hg hn),fun g cs hb=>k.node g cs (h.node g cs hb)⟩
theorem Gw.ext (h:Gw M w w')(k:An w' w''):Gw M w w'':=h.trans (k.alt M) fun _ _ hM=>hM
theorem Gw.to_ext {w0:World}(h:Gw M w w')(he:An w0 w)(hM:∀k,k<w0.heap.size→¬M k):An w0 w':=
 ⟨h.os.trans (Below.os he),h.tape.trans (Below.tape he),h.output.trans (Below.output he),Ar he.hsize h.size,fun k hk=>(h.block k (Bo hk he.hsize) (hM k hk)).trans (Below.block he k hk)⟩
theorem Gw.blk {g t:Nat}{cs:Array Value}(h:Gw M w w')(hb:Aq w g t cs)(hn:¬M g):Aq w' g t cs:=(h.block g hb.lt hn).trans hb
theorem Aq.inj {g t t':Nat}{cs cs':Array Value}(h:Aq w g t cs)(h':Aq w g t' cs'):t=t'∧cs=cs':=by
 unfold Aq at h h';rw[h]at h';injection h' with h';injection h' with e1 e2 e3;exact⟨e2,e1⟩
theorem Gw.of_grown {g t:Nat}{cs:Array Value}(hg:w.grownBy w' (some g))(hb:Aq w g t cs)(ht:t≠154):Gw (fun k=>k=g) w w':=
 ⟨hg.os,hg.tape,hg.output,hg.size,fun k hk hn=>hg.block k hk fun e=>by injection e with e;exact hn e,fun g' cs' og=>og.grown hg fun e=>by
  injection e with e;subst e;exact ht (hb.inj og).1⟩
theorem Gw.set {g t:Nat}{cs:Array Value}(hb:Aq w g t cs)(ht:t≠154)(i:Nat)(u:Value):Gw (fun k=>k=g) w (w.setCell ⟨g,i,none⟩ u):=Gw.of_grown (Fz w _ u) hb ht
theorem Gw.row {g t:Nat}{cs:Array Value}(hb:Aq w g t cs)(ht:t≠154)(us:Array Value):Gw (fun k=>k=g) w (w.setRow g us):=
 ⟨rfl,rfl,rfl,by simp[World.setRow],fun k hk hn=>Go.setRow_other w g k us (fun e=>hn e),fun g' cs' og=>og.setRow_other us fun e=>by
  subst e;exact ht (hb.inj og).1⟩
theorem By.alt (h:Gw M w w'):∀{t:Tr} {a:Option Addr},By w a t→By w' a t
 |.nil,a,k=>k
 |.node l c r,a,k=>by
  obtain⟨g,la,ra,h1,h2,h3,h4⟩:=k;exact⟨g,la,ra,h1,h.node _ _ h2,By.alt h h3,By.alt h h4⟩
end
def Jd (F:Nat→Prop)(w:World)(D:World→Prop):Prop:=∀M w',Gw M w w'→(∀k,k<w.heap.size→F k→¬M k)→D w'
section
variable {F F' M:Nat→Prop} {w w':World} {D D':World→Prop}
theorem Jd.here (h:Jd F w D):D w:=h (fun _=>False) w (Gw.refl _ _) fun _ _ _ h=>h
theorem Jd.alt (h:Jd F w D)(ha:Gw M w w')(hF:∀k,k<w.heap.size→F k→¬M k):Jd F w' D:=fun M' w'' Ij hF'=>
 h (fun k=>M k∨(k<w'.heap.size∧M' k)) w'' ((ha.mono fun _ _ h=>.inl h).trans (Ij.mono fun k hk h=>Or.inr ⟨hk,h⟩) fun _ _ h=>h) fun k hk hf h=>h.elim (hF k hk hf) fun⟨h1,h2⟩=>hF' k h1 hf h2
theorem Jd.ext (h:Jd F w D)(he:An w w'):Jd F w' D:=h.alt (he.alt fun _=>False) fun _ _ _ h=>h
theorem Jd.mono (h:Jd F w D)(hF:∀k,k<w.heap.size→F k→F' k):Jd F' w D:=fun M w' ha hk=>h M w' ha fun k di hf=>hk k di (hF k di hf)
theorem Jd.imp (h:Jd F w D)(hi:∀w,D w→D' w):Jd F w D':=fun M w' ha hk=>hi _ (h M w' ha hk)
theorem Jd.and (h:Jd F w D)(h':Jd F w D'):Jd F w fun w=>D w∧D' w:=fun M w' ha hk=>⟨h M w' ha hk,h' M w' ha hk⟩
theorem Jd.own {b e z n c:Nat}{A:Option Addr}{xs:List Value}(h:Bd w b e z A n c xs)(hF:∀g,(Ak A n c).ownBlock=some g→F g):Jd F w fun w=>Bd w b e z A n c xs:=fun M w' ha hk=>
 Bd.same h fun k di=>ha.block k (Bd.blk h k di).2 (hk k (Bd.blk h k di).2 (hF k di))
theorem Jd.win {b:Nat}(hw:∀w',(∀k,b≤k→k<w.heap.size→w'.heap[k]? = w.heap[k]?)→D w')(hF:∀k,b≤k→k<w.heap.size→F k):Jd F w D:=fun M w' ha hk=>
 hw w' fun k h1 h2=>ha.block k h2 (hk k h2 (hF k h1 h2))
theorem Jd.reg {b:Nat}{v:Value}{l:List Int}(h:Bl w b v l)(hF:∀k,b≤k→k<w.heap.size→F k):Jd F w fun w=>Bl w 0 v l:=Jd.win (b:=b) (fun w' hw=>(h.win hw).lower (B8 _)) hF
theorem Jd.his {b:Nat}{v:Value}{h:Hi}(hh:Dp w b v h)(hF:∀k,b≤k→k<w.heap.size→F k):Jd F w fun w=>Dp w 0 v h:=Jd.win (b:=b) (fun w' hw=>(hh.win hw).lower (B8 _)) hF
end
structure PS where
 tx:List Int
 at_:Int
 mode:Int
 rl:Nat→List Int
 fk:Int
 fa:Int
 part:Pt
 hi:Hi
 past:List (List Int×Int)
 first:List Int
 last:Option (Cm×List Int)
 now:Option (Cm×List Int)
 ask:List Int
 older:Bool
 pend:List Nat
 off:Int
 width:Int
 row:List Int
 rat:Int
 over:Bool
 told:List (Int×List Int)
 vis:List Int
structure SV where
 tr:Option Addr
 first:Option Addr
 r:Nat→Value
 h0:Value
 h3:Value
 h4:Value
 past:Value
 last:Option Addr
 now:Option Addr
 ask:Value
 row:Value
 told:Value
 vis:Value
def Mz (r:Nat→Value):Array Value:=#[r 0,r 1,r 2,r 3,r 4,r 5,r 6,r 7,r 8,r 9,r 10,r 11,r 12,r 13,r 14,r 15,r 16,r 17,r 18,r 19,r 20,r 21,r 22,r 23,r 24,r 25,r 26]
def Ln (v:SV)(h:Hi):Array Value:=#[v.h0,.int .i64 h.most,.int .i64 h.at_,v.h3,v.h4,.bool h.older]
def Pe (c:Cm):Array Value:=#[.int .i64 c.count,.int .i64 c.reg,.int .i64 c.op,.int .i64 c.verb,.int .i64 c.arg]
def nl:Value:=.slice none 0 0
def Nn (v:SV)(s:PS):Array Value:=#[.pointer v.tr,.int .i64 s.at_,.int .i64 s.mode,
 v.r 0,v.r 1,v.r 2,v.r 3,v.r 4,v.r 5,v.r 6,v.r 7,v.r 8,v.r 9,v.r 10,v.r 11,v.r 12,v.r 13,v.r 14,v.r 15,v.r 16,v.r 17,v.r 18,v.r 19,v.r 20,v.r 21,v.r 22,v.r 23,v.r 24,v.r 25,v.r 26,
 .int .i64 s.fk,.int .i64 s.fa,.int .i64 s.part.first,.int .i64 s.part.reg,.int .i64 s.part.op,.int .i64 s.part.second,.int .i64 s.part.wait,
 v.h0,.int .i64 s.hi.most,.int .i64 s.hi.at_,v.h3,v.h4,.bool s.hi.older,v.past,nl,.pointer v.first,.pointer v.last,.pointer v.now,v.ask,.bool s.older,.string (Em s.pend),.int .i64 s.off,.int .i64 s.width,v.row,.int .i64 s.rat,.bool s.over,v.told,v.vis]
def Ys (w:World):Option Addr→Option (Cm×List Int)→Prop
 |none,none=>True
 |some a,some (c,l)=>∃q y,a=⟨q,0,none⟩∧Aq w q 166 (Pe c++#[y])∧Bl w 0 y l
 |_,_=>False
def gP (l:List (List Int×Int))(i:Nat):List Int×Int:=l[i]?.getD ([],0)
def Vv (w:World)(v:Value)(l:List (List Int×Int)):Prop:=
 ∃A n c xs,v=.slice A n c∧Bd w 0 92 2 A n c xs∧l.length=n∧∀i,i<n→∃a,xs[i*2]? = some (.pointer a)∧xs[i*2+1]? = some (.int .i64 (gP l i).2)∧By w a (Pb (gP l i).1)
structure VD (w:World)(v:SV)(s:PS):Prop where
 tr:By w v.tr (Pb s.tx)
 first:By w v.first (Pb s.first)
 regs:Fd w 0 (Mz v.r) s.rl
 his:Dp w 0 (.agg (Ln v s.hi)) s.hi
 past:Vv w v.past s.past
 last:Ys w v.last s.last
 ask:Bl w 0 v.ask s.ask
 row:Bl w 0 v.row s.row
def S8 (w:World)(col:Nat→Nat):Option Addr→Option (Cm×List Int)→Prop
 |none,none=>True
 |some a,some (c,l)=>∃q y,a=⟨q,0,none⟩∧col q=2∧Aq w q 166 (Pe c++#[y])∧Bl w 0 y l∧∀g,y.ownBlock=some g→col g=3
 |_,_=>False
structure Ses (w:World)(col:Nat→Nat)(p:Nat)(v:SV)(s:PS):Prop where
 blk:Aq w p 100 (Nn v s)
 own:col p=7
 dat:Jd (fun k=>col k=1) w fun w=>VD w v s
 now:S8 w col v.now s.now
 dom:∀k,col k≠0→k<w.heap.size
def gV (l:List (Int×List Int))(i:Nat):Int×List Int:=l[i]?.getD (0,[])
def Lv (w:World)(xs:List Value)(l:List (Int×List Int)):Prop:=∀i,i<l.length→∃y,xs[i*2]? = some (.int .i64 (gV l i).1)∧xs[i*2+1]? = some y∧Bl w 0 y (gV l i).2
def yD (w:World)(col:Nat→Nat)(v:Value)(l:List (Int×List Int)):Prop:=
 ∃A n c xs,v=.slice A n c∧Bd w 0 48 2 A n c xs∧l.length=n∧(∀g,v.ownBlock=some g→col g=4)∧Jd (fun k=>col k=5) w fun w=>Lv w xs l
def yB (w:World)(col:Nat→Nat)(v:Value)(l:List Int):Prop:=∃A n c,v=.slice A n c∧Ba w 0 A n c l∧∀g,v.ownBlock=some g→col g=6
structure Dm (w:World)(col:Nat→Nat)(p:Nat)(v:SV)(s:PS):Prop where
 ses:Ses w col p v s
 told:yD w col v.told s.told
 vis:yB w col v.vis s.vis
structure Km (w:World)(col:Nat→Nat)(w':World)(col':Nat→Nat):Prop where
 alt:Gw (fun k=>col k≠0∧col k≠1) w w'
 sub:∀k,k<w.heap.size→col' k≠0→col k≠0
 one:∀k,k<w.heap.size→col k=1→col' k=1:=by exact fun _ _ h=>h
theorem Km.refl (w:World)(col:Nat→Nat):Km w col w col:=⟨Gw.refl _ _,fun _ _ h=>h,fun _ _ h=>h⟩
theorem Km.trans {col c1 c2:Nat→Nat}(h:Km w col w1 c1)(k:Km w1 c1 w2 c2):Km w col w2 c2:=
 ⟨h.1.trans k.1 fun g hg hc=>⟨h.2 g hg hc.1,fun e=>hc.2 (h.3 g hg e)⟩,fun g hg hc=>h.2 g hg (k.2 g (Bo hg h.1.size) hc),fun g hg e=>k.3 g (Bo hg h.1.size) (h.3 g hg e)⟩
def C6 (p:Nat)(w:World)(col:Nat→Nat)(s':PS)(w':World):Prop:=∃col' v',Dm w' col' p v' s'∧Km w col w' col'
theorem C6.trans {col c1:Nat→Nat}{s':PS}(h:Km w col w1 c1)(k:C6 p w1 c1 s' w2):C6 p w col s' w2:=
 let ⟨col',v',h1,h2⟩:=k;⟨col',v',h1,h.trans h2⟩
section
variable {M:Nat→Prop} {w w':World} {col col':Nat→Nat} {p:Nat} {v v':SV} {s s':PS}
theorem Jd.turn {c:Nat}{D:World→Prop}(h:Jd (fun k=>col k=c) w D)(ha:Gw M w w')(hM:∀k,k<w.heap.size→M k→col k≠c)(ho:∀k,k<w.heap.size→col' k=col k):Jd (fun k=>col' k=c) w' D:=
 ((h.mono (F':=fun k=>k<w.heap.size∧col k=c) fun k h1 h2=>⟨h1,h2⟩).alt ha fun k h1 h2 h3=>hM k h1 h3 h2.2).mono fun k _ h2=>(ho k h2.1).trans h2.2
theorem Zc {c n q:Nat}{A:Option Addr}{l:List Int}(h:Ba w 0 A n q l)(ha:Gw M w w')(hM:∀k,k<w.heap.size→M k→col k≠c)(hc:∀g,(Ak A n q).ownBlock=some g→col g=c):Ba w' 0 A n q l:=
 Bd.same h fun k hk=>ha.block k (Bd.blk h k hk).2 fun hm=>hM k (Bd.blk h k hk).2 hm (hc k hk)
theorem cU {c:Nat}{y:Value}{l:List Int}(h:Bl w 0 y l)(ha:Gw M w w')(hM:∀k,k<w.heap.size→M k→col k≠c)(hc:∀g,y.ownBlock=some g→col g=c):Bl w' 0 y l:=by
 obtain⟨A,n,k,rfl,h1,h2⟩:=h;exact⟨A,n,k,rfl,Zc h1 ha hM hc,h2⟩
theorem S8.turn {a:Option Addr}{o:Option (Cm×List Int)}(h:S8 w col a o)(ha:Gw M w w')(hM:∀k,k<w.heap.size→M k→col k≠2∧col k≠3)(ho:∀k,k<w.heap.size→col' k=col k):S8 w' col' a o:=by
 rcases a with _|a<;>rcases o with _|⟨c,l⟩
 ·trivial
 ·exact h
 ·exact h
 ·obtain⟨q,y,rfl,h1,h2,h3,h4⟩:=h
  exact⟨q,y,rfl,(ho q h2.lt).trans h1,ha.blk h2 fun hm=>(hM q h2.lt hm).1 h1,cU h3 ha (fun k h1 h2=>(hM k h1 h2).2) h4,fun g hg=>(ho g (h3.blk g hg).2).trans (h4 g hg)⟩
theorem yD.turn {x:Value}{l:List (Int×List Int)}(h:yD w col x l)(ha:Gw M w w')(hM:∀k,k<w.heap.size→M k→col k≠4∧col k≠5)(ho:∀k,k<w.heap.size→col' k=col k):yD w' col' x l:=by
 obtain⟨A,n,c,xs,rfl,h1,h2,h3,h4⟩:=h;exact⟨A,n,c,xs,rfl,Bd.same h1 fun k hk=>ha.block k (Bd.blk h1 k hk).2 fun hm=>(hM k (Bd.blk h1 k hk).2 hm).1 (h3 k hk),h2,fun g hg=>(ho g (Bd.blk h1 g hg).2).trans (h3 g hg),h4.turn ha (fun k h1 h2=>(hM k h1 h2).2) ho⟩
theorem yB.turn {x:Value}{l:List Int}(h:yB w col x l)(ha:Gw M w w')(hM:∀k,k<w.heap.size→M k→col k≠6)(ho:∀k,k<w.heap.size→col' k=col k):yB w' col' x l:=by
 obtain⟨A,n,c,rfl,h1,h2⟩:=h;exact⟨A,n,c,rfl,Zc h1 ha hM h2,fun g hg=>(ho g (Bd.blk h1 g hg).2).trans (h2 g hg)⟩
theorem Ses.lt (h:Ses w col p v s){k:Nat}(hk:w.heap.size≤k):col k=0:=Decidable.byContradiction fun hn=>absurd (h.dom k hn) (by omega)
theorem Dm.put (h:Dm w col p v s)(ha:Gw (fun k=>k=p) w w')(hb:Aq w' p 100 (Nn v' s'))(hd:Jd (fun k=>col k=1) w' fun w=>VD w v' s')
 (e1:v'.now=v.now:=by rfl) (e2:s'.now=s.now:=by rfl) (e3:v'.told=v.told:=by rfl) (e4:s'.told=s.told:=by rfl) (e5:v'.vis=v.vis:=by rfl) (e6:s'.vis=s.vis:=by rfl):Dm w' col p v' s'∧Km w col w' col:=by
 have h7:=h.ses.own;have hm:∀c,c≠7→∀k,k<w.heap.size→k=p→col k≠c:=fun c hc k _ e=>by rw[e,h7];exact fun e=>hc e.symm
 refine⟨⟨⟨hb,h7,hd,?_,fun k hk=>Bo (h.ses.dom k hk) ha.size⟩,?_,?_⟩,ha.mono fun k _ e=>by rw[e,h7];decide,fun _ _ h=>h,fun _ _ h=>h⟩
 ·rw[e1,e2];exact h.ses.now.turn ha (fun k h1 h2=>⟨hm 2 (by decide) k h1 h2,hm 3 (by decide) k h1 h2⟩) fun _ _=>rfl
 ·rw[e3,e4];exact h.told.turn ha (fun k h1 h2=>⟨hm 4 (by decide) k h1 h2,hm 5 (by decide) k h1 h2⟩) fun _ _=>rfl
 ·rw[e5,e6];exact h.vis.turn ha (hm 6 (by decide)) fun _ _=>rfl
theorem Dm.old (h:Dm w col p v s)(ha:Gw (fun k=>k=p) w w'):Jd (fun k=>col k=1) w' fun w=>VD w v s:=
 h.ses.dat.turn ha (fun k _ e=>by rw[e,h.ses.own];decide) fun _ _=>rfl
theorem Jd.trn {D:World→Prop}(h:Jd (fun k=>col k=1) w D)(t:Km w col w' col'):Jd (fun k=>col' k=1) w' D:=
 ((h.mono (F':=fun k=>k<w.heap.size∧col k=1) fun k h1 h2=>⟨h1,h2⟩).alt t.1 fun k h1 h2 h3=>h3.2 h2.2).mono fun k _ h2=>t.3 k h2.1 h2.2
theorem Dm.ext (h:Dm w col p v s)(he:An w w'):Dm w' col p v s:=
 (h.put (he.alt _) (h.ses.blk.ext he) (h.old (he.alt _))).1
end
theorem Vf:(prog.info? 48).map (fun i=>(i.zero,i.size,i.bytes))=some (some (.agg #[(0:Int),()]),2,32):=by kernel_rfl
def yA (w:World):World:={ w with heap:=#[] }
theorem X8 (w:World):An (yA w) w:=⟨rfl,rfl,rfl,B8 _,fun k hk=>absurd hk (Nat.not_lt_zero k)⟩
theorem jB (h:w.grownBy w' none):An w w':=⟨h.os,h.tape,h.output,h.size,fun k hk=>h.block k hk nofun⟩
theorem Gw.of_own {b e z n c:Nat}{xs:List Value}(h:Bd w b e z A n c xs)(hg:w.grownBy w' (Ak A n c).ownBlock)(he:e≠154):Gw (fun k=>(Ak A n c).ownBlock=some k) w w':=by
 rcases h.2 with⟨hv,_⟩|⟨g,cap,cur,hv,_,hb,_⟩
 ·rw[hv]at hg ⊢;exact(jB hg).alt _
 ·rw[hv]at hg ⊢;exact(Gw.of_grown hg hb he).mono fun k _ e=>congrArg some e.symm
theorem V7 {v:SV}{s:PS}{k:Int}{y:Value}(h:Dm w col p v s)(hy:Jd (fun k=>col k=5) w fun w=>Bl w 0 y l)(hq:s.told.length≤1000000000000):
 Calls prog 58 #[.pointer (some ⟨p,0,none⟩),.int .i64 k,y] w fun e w'=>e=.returned (.tuple #[])∧C6 p w col { s with told:=s.told++[(k,l)] } w':=by
 obtain⟨i0,hi,bm,bz,az⟩:=info_parts Vf;obtain⟨A,n,c,xs,hv,ho,hn,hg,hd⟩:=h.told;have f56:=h.ses.blk.frozen 56;have c56:w.cell? ⟨p,56,none⟩=some (.slice A n c):=(h.ses.blk.cell 56).trans (congrArg some hv);obtain⟨ya,yn,yc,rfl,_⟩:=hy.here;have ae:=h.ses.blk.lt;have kw:n≤1000000000000:=by omega
 have H:=A6 h;have HY:=A6 hy;have m8:=X8 w;have HO:=A6 ho;rw[hv]at hg;have HT:=A6 (Au hg (Au hn hd));clear h hy hv hg hd hn hq ho;go_enter func58,ntmps58
 have ac:=HO.out;go_wp2_with (at_builtin;refine C9 rfl (.tmp 10) (.tmp 14) 24 rfl (yA w) 0 48 i0 (.agg #[(0:Int),()]) 2 32 underlying24 hi bm bz az rfl (by decide) A n c _ rfl ac #[k,.slice ya yn yc] rfl ?_ rfl ?_ ?_ m8 (Nat.le_refl _) (B8 _) ?_)
 ·exact⟨rfl,rfl⟩
 ·unfold maxLen;omega
 ·omega
 ·intro A2 c2 w3 db av cf bg
  have h:=H.out;have h7:=h.ses.own;obtain⟨hg,hn,hd⟩:=HT.out;have ho:=HO.out;have Im:(Ak A n c).ownBlock≠some p:=fun e=>by have:=hg p e;omega
  have yi:(Ak A2 (n+1) c2).ownBlock≠some p:=fun e=>by
   rcases cf with e'|⟨g,h1,h2⟩
   ·exact Im (e'.symm.trans e)
   ·rw[h2]at e;injection e with e;omega
  have ap:=h.ses.blk.grown av fun e=>Im e.symm
  have k56:w3.cell? ⟨p,56,none⟩=some v.told:=ap.cell 56;have f3:=ap.frozen 56;have bn:=ap.set_ 56 (.slice A2 (n+1) c2);have EJ:=Gw.of_own ho av (by decide)
  have nw:=(EJ.mono (M':=fun k=>(Ak A n c).ownBlock=some k∨k=p) fun k _ e=>.inl e).trans (Gw.set ap (by decide) 56 (.slice A2 (n+1) c2)) fun g _ e=>.inr e
  have fd:Bd (w3.setCell ⟨p,56,none⟩ (.slice A2 (n+1) c2)) 0 48 2 A2 (n+1) c2 (xs++[.int .i64 k,.slice ya yn yc]):=Bd.same db fun g hg=>Cs fun e=>yi (by rw[hg];exact congrArg some e)
  have dp:Hid (C6 p w col { s with told:=s.told++[(k,l)] } (w3.setCell ⟨p,56,none⟩ (.slice A2 (n+1) c2))):=A6 (by
   have hold:∀g,g<w.heap.size→(if(Ak A2 (n+1) c2).ownBlock=some g then 4 else col g)=col g:=fun g cr=>by
    split
    ·rename_i e
     rcases cf with e'|⟨g',h1,h2⟩
     ·exact(hg g (e'.symm.trans e)).symm
     ·rw[h2]at e;injection e with e;omega
    ·rfl
   have hm:∀d,d≠4→d≠7→∀g,g<w.heap.size→((Ak A n c).ownBlock=some g∨g=p)→col g≠d:=fun d h1 h2 g _ e=>by
    exact I98
   refine⟨fun g=>if(Ak A2 (n+1) c2).ownBlock=some g then 4 else col g,{ v with told:=.slice A2 (n+1) c2 },⟨⟨bn,(if_neg yi).trans h7,(h.ses.dat.turn nw (hm 1 (by decide) (by decide)) hold).imp fun _ h=>⟨h.1,h.2,h.3,h.4,h.5,h.6,h.7,h.8⟩,h.ses.now.turn nw (fun g h1 h2=>⟨hm 2 (by decide) (by decide) g h1 h2,hm 3 (by decide) (by decide) g h1 h2⟩) hold,fun g cr=>?_⟩,?_,h.vis.turn nw (hm 6 (by decide) (by decide)) hold⟩,nw.mono fun g h1 h2=>?_,fun g h1 h2=>by rw[←hold g h1];exact h2,fun g h1 e=>(hold g h1).trans e⟩
   ·by_cases e:(Ak A2 (n+1) c2).ownBlock=some g
    ·exact(Bd.blk fd g e).2
    ·have cr:(if(Ak A2 (n+1) c2).ownBlock=some g then 4 else col g)≠0:=cr
     exact I81
   ·have hy5:=HY.out.turn nw (hm 5 (by decide) (by decide)) hold
    have hd5:=hd.turn nw (hm 5 (by decide) (by decide)) hold
    have ld:=ho.len;refine⟨A2,n+1,c2,_,rfl,fd,by simp[hn],fun g e=>if_pos e,fun M w' ha hk i hi=>?_⟩
    have h1:=hd5 M w' ha hk;have h2:=hy5 M w' ha hk;simp only[List.length_append,List.length_singleton]at hi;by_cases e:i<s.told.length
    ·obtain⟨y,k1,k2,k3⟩:=h1 i e
     have XV:gV (s.told++[(k,l)]) i=gV s.told i:=by unfold gV;rw[Bs e]
     rw[XV];exact⟨y,by rw[Bs (by omega)];exact k1,by rw[Bs (by omega)];exact k2,k3⟩
    ·obtain rfl:i=s.told.length:=by omega
     have XV:gV (s.told++[(k,l)]) s.told.length=(k,l):=by unfold gV;simp
     rw[XV];exact⟨_,by rw[Bx (by omega),show s.told.length*2-xs.length=0 by omega];rfl,by rw[Bx (by omega),show s.told.length*2+1-xs.length=1 by omega];rfl,h2⟩
   ·rcases h2 with e|rfl
    ·rw[hg g e];decide
    ·rw[h7];decide)
  clear db av cf bg ap bn EJ nw fd h hd ho hn;go_wp2_with fail
  go_end0
  exact⟨rfl,dp.out⟩
theorem Lf {v:SV}{s:PS}(h:Dm w col p v s)(hq:s.told.length≤1000000000000):
 Calls prog 63 #[.pointer (some ⟨p,0,none⟩)] w fun e w'=>e=.returned (.tuple #[])∧C6 p w col { s with told:=s.told++[(1,[])] } w':=by
 have HT:=A6 (V7 (k:=1) (y:=.slice none 0 0) (l:=[]) h (fun _ w' _ _=>Bl.nil w' 0) hq)
 clear h hq;go_enter func63,ntmps63
 go_wp2_with fail
 refine HT.out.mono ?_
 rintro e w1 ⟨rfl,h1⟩;have H1:=A6 h1;clear h1 HT;go_wp2_with fail
 go_end0
 exact⟨rfl,H1.out⟩
theorem fQ {p n c:Nat}{a:Int}{v:SV}{s:PS}(h:Dm w col p v s)(hl:Bj w A n c l)(hn:n≤4096):
 Calls prog 79 #[.pointer (some ⟨p,0,none⟩),.agg #[.slice A n c,a]] w fun e w'=>e=.returned (.tuple #[])∧∃q,Dm w' col p { v with tr:=q } { s with tx:=l,at_:=a }∧Km w col w' col:=by
 have hx:=An.alloc w (.cells #[.slice A n c,a] 32);have hb:=Aq.new w 32 #[.slice A n c,.int .i64 a];have HO:=A6 (J3y (hl.ext hx));have ae:=h.ses.blk.lt;have H:=A6 h;have HB:=A6 hb;have HX:=A6 hx;have he:xZ l=0:=by unfold xZ;rw[if_pos (by rw[hl.len];exact hn)]
 rw[he]at HO;clear h hb hx hl he;go_enter func79,ntmps79
 go_wp2_with fail
 refine HO.out.mono ?_
 rintro e w1 ⟨q,rfl,ht,aj⟩;have ay:=HX.out.trans aj;have h1:=H.out.ses.blk.ext ay;have c1:w1.cell? ⟨w,1,none⟩=some (.int .i64 a):=(HB.out.ext aj).cell 1;have n1:¬w.heap.size=p:=by omega
 have n2:¬p=w.heap.size:=by omega
 have d0:w1.cell? ⟨p,0,none⟩=some (.pointer v.tr):=h1.cell 0;have d1:w1.cell? ⟨p,1,none⟩=some (.int .i64 s.at_):=h1.cell 1;have f0:=h1.frozen 0;have f1:=h1.frozen 1;have HR:Hid (Dm ((w1.setCell ⟨p,0,none⟩ (.pointer q)).setCell ⟨p,1,none⟩ a) col p { v with tr:=q } { s with tx:=l,at_:=a }∧Km w col ((w1.setCell ⟨p,0,none⟩ (.pointer q)).setCell ⟨p,1,none⟩ a) col):=A6 (by
  have ha:=((ay.alt (fun k=>k=p)).trans (Gw.set h1 (by decide) 0 (.pointer q)) fun _ _ h=>h).trans (Gw.set (h1.set_ 0 (.pointer q)) (by decide) 1 (.int .i64 a)) fun _ _ h=>h
  refine H.out.put ha ((h1.set_ 0 (.pointer q)).set_ 1 (.int .i64 a)) fun M w' h2 h3=>?_
  have hd:=H.out.old ha M w' h2 h3;exact⟨(By.alt (Gw.set (h1.set_ 0 (.pointer q)) (by decide) 1 (.int .i64 a)) (By.alt (Gw.set h1 (by decide) 0 (.pointer q)) ht)).alt h2,hd.2,hd.3,hd.4,hd.5,hd.6,hd.7,hd.8⟩)
 clear HO HB HX ht aj ay h1 H;go_wp2_with fail
 go_end0
 exact⟨rfl,q,HR.out⟩
structure E5 (w0 w:World)(p t:Nat)(cs:Array Value):Prop where
 alt:Gw (fun k=>k=p) w0 w
 blk:Aq w p t cs
theorem E5.start (he:An w0 w)(hb:Aq w p t cs):E5 w0 w p t cs:=⟨he.alt _,hb⟩
theorem E5.set (h:E5 w0 w p t cs)(i:Nat)(u:Value)(ht:t≠154:=by decide):E5 w0 (w.setCell ⟨p,i,none⟩ u) p t (cs.setIfInBounds i u):=
 ⟨h.alt.trans (Gw.set h.blk ht i u) fun _ _ h=>h,h.blk.set_ i u⟩
theorem E5.row (h:E5 w0 w p t cs)(us:Array Value)(ht:t≠154:=by decide):E5 w0 (w.setRow p us) p t us:=
 ⟨h.alt.trans (Gw.row h.blk ht us) fun _ _ h=>h,h.blk.setRow us⟩
theorem E5.ext {w0 w w':World}(h:E5 w0 w p t cs)(he:An w w'):E5 w0 w' p t cs:=⟨h.alt.ext he,h.blk.ext he⟩
theorem E5.to {cs cs':Array Value}(h:E5 w0 w p t cs)(hc:cs=cs'):Aq w p t cs':=hc▸h.blk
theorem Dm.chain {v:SV}{s:PS}(h:Dm w col p v s)(c:E5 w w' p 100 cs)(v':SV)(s':PS)(hc:cs=Nn v' s')(hd:∀w'',Gw (fun k=>k=p) w w'→(∀x t,By w x t→By w'' x t)→VD w'' v s→VD w'' v' s')
 (e1:v'.now=v.now:=by rfl) (e2:s'.now=s.now:=by rfl) (e3:v'.told=v.told:=by rfl) (e4:s'.told=s.told:=by rfl) (e5:v'.vis=v.vis:=by rfl) (e6:s'.vis=s.vis:=by rfl):Dm w' col p v' s'∧Km w col w' col:=
 h.put c.alt (hc▸c.blk) (fun M w'' h2 h3=>hd w'' c.alt (fun x t ht=>(ht.alt c.alt).alt h2) (h.old c.alt M w'' h2 h3)) e1 e2 e3 e4 e5 e6
theorem cX (w:World):Vv w nl []:=⟨none,0,0,[],rfl,Bd.nil _ _ _ _,rfl,fun i hi=>absurd hi (Nat.not_lt_zero i)⟩
def Yc (s:PS)(l:List Int)(md:Int):PS:={ s with tx:=l,at_:=cond (md==0) (max 0 ((l.length:Int)-1)) 0,first:=l,past:=[],mode:=md,part:=Pt.zero }
theorem qK {v:SV}{s:PS}(h:Dm w col p v s)(md:Int):
 Dm (((((((((w.setCell ⟨p,45,none⟩ (.pointer v.tr)).setCell ⟨p,43,none⟩ nl).setCell ⟨p,44,none⟩ nl).setCell ⟨p,2,none⟩ md).setCell ⟨p,32,none⟩ (0:Int)).setCell ⟨p,33,none⟩ (0:Int)).setCell ⟨p,34,none⟩ (0:Int)).setCell ⟨p,35,none⟩ (0:Int)).setCell ⟨p,36,none⟩ (0:Int)) col p
  { v with first:=v.tr,past:=nl } { s with first:=s.tx,past:=[],mode:=md,part:=Pt.zero }∧
 Km w col (((((((((w.setCell ⟨p,45,none⟩ (.pointer v.tr)).setCell ⟨p,43,none⟩ nl).setCell ⟨p,44,none⟩ nl).setCell ⟨p,2,none⟩ md).setCell ⟨p,32,none⟩ (0:Int)).setCell ⟨p,33,none⟩ (0:Int)).setCell ⟨p,34,none⟩ (0:Int)).setCell ⟨p,35,none⟩ (0:Int)).setCell ⟨p,36,none⟩ (0:Int)) col:=
 h.chain ((((((((((E5.start (An.refl w) h.ses.blk).set 45 (.pointer v.tr)).set 43 nl).set 44 nl).set 2 (.int .i64 md)).set 32 (.int .i64 0)).set 33 (.int .i64 0)).set 34 (.int .i64 0)).set 35 (.int .i64 0)).set 36 (.int .i64 0)) _ _ (by kernel_rfl) fun w'' _ ht hd=>⟨hd.1,hd.1,hd.3,hd.4,cX _,hd.6,hd.7,hd.8⟩
theorem Qa {p n c:Nat}{md:Int}{v:SV}{s:PS}(h:Dm w col p v s)(hl:Bj w A n c l)(hn:n≤4096):
 Calls prog 59 #[.pointer (some ⟨p,0,none⟩),.slice A n c,.int .i64 md] w fun e w'=>e=.returned (.tuple #[])∧C6 p w col (Yc s l md) w':=by
 have HS:∀a:Int,Hid (Calls prog 79 #[.pointer (some ⟨p,0,none⟩),.agg #[.slice A n c,a]] w fun e w'=>e=.returned (.tuple #[])∧∃q,Dm w' col p { v with tr:=q } { s with tx:=l,at_:=a }∧Km w col w' col):=fun a=>A6 (fQ h hl hn)
 have ab:=A6 hl.len;clear h hl;obtain⟨b,hb⟩:∃b,(md==0)=b:=⟨_,rfl⟩;have H0:Hid (Yc s l md={ s with tx:=l,at_:=cond b (max 0 ((n:Int)-1)) 0,first:=l,past:=[],mode:=md,part:=Pt.zero }):=A6 (by unfold Yc;rw[ab.out,hb])
 cases b
 all_goals
  go_enter func59,ntmps59
  go_wp2_with fail
  refine(HS _).out.mono ?_
  rintro e w1 ⟨rfl,q,h1,h2⟩;have hb:=h1.ses.blk;have fz:=hb.frozen;have d0:w1.cell? ⟨p,0,none⟩=some (.pointer q):=hb.cell 0;have d2:w1.cell? ⟨p,2,none⟩=some (.int .i64 s.mode):=hb.cell 2;have d32:w1.cell? ⟨p,32,none⟩=some (.int .i64 s.part.first):=hb.cell 32;have d33:w1.cell? ⟨p,33,none⟩=some (.int .i64 s.part.reg):=hb.cell 33;have d34:w1.cell? ⟨p,34,none⟩=some (.int .i64 s.part.op):=hb.cell 34;have d35:w1.cell? ⟨p,35,none⟩=some (.int .i64 s.part.second):=hb.cell 35;have d36:w1.cell? ⟨p,36,none⟩=some (.int .i64 s.part.wait):=hb.cell 36;have d43:w1.cell? ⟨p,43,none⟩=some v.past:=hb.cell 43;have d44:w1.cell? ⟨p,44,none⟩=some nl:=hb.cell 44;have d45:w1.cell? ⟨p,45,none⟩=some (.pointer v.first):=hb.cell 45;have HR:=A6 (qK h1 md);have HT:=A6 h2;clear h1 h2 hb;go_wp2_with fail
  go_end0
  rw[H0.out];exact⟨rfl,_,_,HR.out.1,HT.out.trans HR.out.2⟩
theorem dA {v v':SV}{s s':PS}{a:Addr}(h:Dm w col p v s)(ha:v.now=some a)(hc:Gw (fun k=>k=p) w w')(hb:Aq w' p 100 (Nn v' s'))
 (hd:∀w'',Gw (fun k=>k=p) w w'→(∀x t,By w x t→By w'' x t)→Ys w'' v.now s.now→VD w'' v s→VD w'' v' s')
 (e1:v'.now=none:=by rfl) (e2:s'.now=none:=by rfl) (e3:v'.told=v.told:=by rfl) (e4:s'.told=s.told:=by rfl) (e5:v'.vis=v.vis:=by rfl) (e6:s'.vis=s.vis:=by rfl):C6 p w col s' w':=by
 have h7:=h.ses.own;have hm:∀c,c≠7→∀k,k<w.heap.size→k=p→col k≠c:=fun c hc k _ e=>by rw[e,h7];exact fun e=>hc e.symm
 have uv:=h.told.turn hc (fun k h1 h2=>⟨hm 4 (by decide) k h1 h2,hm 5 (by decide) k h1 h2⟩) fun _ _=>rfl
 have hvi:=h.vis.turn hc (hm 6 (by decide)) fun _ _=>rfl
 obtain⟨c',LN⟩:∃c':Nat→Nat,c'=fun k=>if col k=2∨col k=3 then 1 else col k:=⟨_,rfl⟩
 have hz:∀k x,x≠1→x≠2→x≠3→(c' k=x↔col k=x):=fun k x h1 h2 h3=>by
  rw[LN]
  show(if _ then _ else _)=x↔_
  split
  ·rename_i h;constructor
   ·intro e;exact absurd e.symm h1
   ·intro e;rcases h with h|h<;>omega
  ·rfl
 have h1:∀k,c' k=1↔(col k=1∨col k=2∨col k=3):=fun k=>by
  rw[LN]
  show(if _ then _ else _)=1↔_
  split
  ·rename_i h;simp;omega
  ·rename_i h;omega
 have hF:∀k,k<w'.heap.size→col k=1→c' k=1:=fun k _ e=>(h1 k).2 (.inl e)
 have cy:Jd (fun k=>c' k=1) w' fun w=>Ys w v.now s.now:=by
  have hn:=h.ses.now.turn hc (fun k h1 h2=>⟨hm 2 (by decide) k h1 h2,hm 3 (by decide) k h1 h2⟩) fun _ _=>rfl
  rw[ha]at hn ⊢;rcases hs:s.now with _|⟨c,l⟩
  ·rw[hs]at hn;exact absurd hn (fun h=>h)
  ·rw[hs]at hn
   obtain⟨q,y,rfl,g1,g2,g3,g4⟩:=hn;intro M w'' ka kk;exact⟨q,y,rfl,ka.blk g2 (kk q g2.lt ((h1 q).2 (.inr (.inl g1)))),cU (col:=c') g3 ka (fun k e1 e2 e3=>kk k e1 e3 e2) fun g hg=>(h1 g).2 (.inr (.inr (g4 g hg)))⟩
 refine⟨c',v',⟨⟨hb,(hz p 7 (by decide) (by decide) (by decide)).2 h7,fun M w'' ka kk=>?_,by rw[e1,e2];trivial,fun k hk=>?_⟩,?_,?_⟩,hc.mono fun k _ e=>by rw[e,h7];decide,fun k _ hk=>?_,fun k _ e=>(h1 k).2 (.inl e)⟩
 ·exact hd w'' hc (fun x t ht=>(ht.alt hc).alt ka) (cy M w'' ka kk) (h.old hc M w'' ka fun k e1 e2=>kk k e1 ((h1 k).2 (.inl e2)))
 ·refine Nat.lt_of_lt_of_le (h.ses.dom k fun e=>hk ((hz k 0 (by decide) (by decide) (by decide)).2 e)) hc.size
 ·rw[e3,e4]
  obtain⟨A,n,c,xs,hx,k1,k2,k3,k4⟩:=uv;exact⟨A,n,c,xs,hx,k1,k2,fun g hg=>(hz g 4 (by decide) (by decide) (by decide)).2 (k3 g hg),k4.mono fun k _ e=>(hz k 5 (by decide) (by decide) (by decide)).2 e⟩
 ·rw[e5,e6]
  obtain⟨A,n,c,hx,k1,k2⟩:=hvi;exact⟨A,n,c,hx,k1,fun g hg=>(hz g 6 (by decide) (by decide) (by decide)).2 (k2 g hg)⟩
 ·exact fun e=>hk ((hz k 0 (by decide) (by decide) (by decide)).2 e)
theorem uT {p a:Nat}{v:SV}{s:PS}(h:Dm w col p v s)(gt:s.at_=a)(ha:a≤100000):
 Calls prog 84 #[.pointer (some ⟨p,0,none⟩)] w fun e w'=>e=.returned (.tuple #[])∧C6 p w col { s with at_:=max 0 ((a:Int)-1),mode:=0,last:=s.now.or s.last,now:=none } w':=by
 have hb:=h.ses.blk;have fz:=hb.frozen;have d1:w.cell? ⟨p,1,none⟩=some (.int .i64 a):=by rw[←gt];exact hb.cell 1
 have d2:w.cell? ⟨p,2,none⟩=some (.int .i64 s.mode):=hb.cell 2;have d46:w.cell? ⟨p,46,none⟩=some (.pointer v.last):=hb.cell 46;have d47:w.cell? ⟨p,47,none⟩=some (.pointer v.now):=hb.cell 47;have H:=A6 h;have c2:=((E5.start (An.refl w) hb).set 1 (.int .i64 (max 0 ((a:Int)-1)))).set 2 (.int .i64 0);cases hn:v.now with
 |none=>
  have qp:s.now=none:=by
   have:=h.ses.now;rw[hn]at this;rcases hs:s.now with _|⟨c,l⟩
   ·rfl
   ·rw[hs]at this;exact absurd this (fun h=>h)
  have HR:=A6 (h.chain c2 v { s with at_:=max 0 ((a:Int)-1),mode:=0,last:=s.now.or s.last,now:=none } (by kernel_rfl) (fun w'' _ ht hd=>⟨hd.1,hd.2,hd.3,hd.4,hd.5,by rw[qp];exact hd.6,hd.7,hd.8⟩) rfl qp.symm)
  clear c2 h hb gt;go_enter func84,ntmps84
  exact I143
 |some q=>
  have qp:(s.now.or s.last)=s.now:=by
   have:=h.ses.now;rw[hn]at this;rcases hs:s.now with _|⟨c,l⟩
   ·rw[hs]at this;exact absurd this (fun h=>h)
   ·rfl
  have c3:=(c2.set 46 (.pointer (some q))).set 47 (.pointer none);have HR:=A6 (dA (v':={ v with last:=some q,now:=none }) (s':={ s with at_:=max 0 ((a:Int)-1),mode:=0,last:=s.now.or s.last,now:=none }) h hn c3.alt (c3.to (by kernel_rfl)) (fun w'' _ ht hc hd=>⟨hd.1,hd.2,hd.3,hd.4,hd.5,by rw[qp];rw[hn]at hc;exact hc,hd.7,hd.8⟩))
  clear c2 c3 h hb gt;go_enter func84,ntmps84
  go_wp2_with fail
  go_end0
  exact⟨rfl,HR.out⟩
end
