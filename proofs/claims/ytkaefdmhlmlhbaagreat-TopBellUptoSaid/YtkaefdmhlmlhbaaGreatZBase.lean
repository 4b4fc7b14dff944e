/-
  Part of the proof: ZBase.
-/
import Derived.Test.YtkaefdmhlmlhbaaGreatZFb
import Derived.Test.YtkaefdmhlmlhbaaGreatRows
import Derived.WalkKit
import Derived.ProofKit
import Derived.OpenShut
import Derived.WalkLawsBesides
import Derived.WalkSpells
import Derived.Below
import Derived.Laws.OwnMore
import Derived.Deep.AppendLies
import Derived.Deep.Draws
import Derived.Laws.Rows
import Derived.Maps.AppendAt
import Derived.RegionTactic
import Derived.OwnWalk
import Derived.ChangeSame
import Derived.Deep.QuietTactic
import Derived.BigQuiet
import Derived.Lib.Hide
import Derived.Deep.OwnRows
set_option maxRecDepth 100000
set_option maxHeartbeats 16000000
set_option linter.unusedVariables false
set_option linter.unusedSimpArgs false
namespace Go.Proofs.YtkaefdmhlmlhbaaGreat
open Go.RowKit
open _root_.List renaming getElem?_take→Xq,take_of_length_le→Bl,take_succ_eq_append_getElem→Z2e
open _root_.Nat renaming eq_zero_or_pos→Bm,le_refl→Aj,le_trans→Aq,lt_or_ge→Av,zero_le→Au
open Value renaming int→Ar,slice→Ak
open Region renaming wanted→Bp
theorem A6 {p:Prop}(h:p):Go.RowKit.Hid p:=h
open Go.RowKit Go.WideShapes Go.ChangeShapes
def Am (w w':World):Prop:=Below w.heap.size w w'
theorem Am.refl (w:World):Am w w:=Below.refl _ _
theorem Am.trans {a b c:World}(h:Am a b)(k:Am b c):Am a c:=Below.trans h (Below.mono k h.size)
theorem Am.drew (w:World):Am w w.drew:=(Below.refl _ _).drew
theorem Am.drewN (w:World)(n:Nat):Am w (w.drewN n):=⟨rfl,rfl,rfl,Aj _,fun _ _=>rfl⟩
theorem Am.alloc (w:World)(o:Obj):Am w (w.alloc o):=(Below.refl _ _).alloc (Aj _) o
theorem Am.setCell {w x:World}(h:Am w x){p:Addr}(hp:w.heap.size≤p.block)(u:Value):Am w (x.setCell p u):=Below.setCell h hp u
theorem Am.to_drewN {w x:World}(h:Am w x)(n:Nat):Am w (x.drewN n):=h.trans (Am.drewN _ _)
theorem Am.to_drew {w x:World}(h:Am w x):Am w x.drew:=h.trans (Am.drew _)
theorem Am.to_alloc {w x:World}(h:Am w x)(o:Obj):Am w (x.alloc o):=h.trans (Am.alloc _ _)
theorem Am.hsize {w w':World}(h:Am w w'):w.heap.size≤w'.heap.size:=h.size
theorem Am.cell {w w':World}(h:Am w w'){p:Addr}{v:Value}(hc:w.cell? p=some v):w'.cell? p=some v:=
 (Below.cell h (World.block_lt_of_cell? w p hc)).trans hc
theorem Pf (w:World)(a b:Nat):(w.drewN a).drewN b=w.drewN (a+b):=World.drewN_drewN w a b
theorem J2v {P:Program}{f:FuncId}{args:Array Value}{w:World}{n:Nat}{v:Value}(h:Calls P f args (w.drewN n) fun e w'=>e=.returned v∧∃k,w'=(w.drewN n).drewN k):
 Calls P f args (w.drewN n) fun e w''=>e=.returned v∧∃m,w''=w.drewN m:=
 h.mono fun _ _ ⟨he,k,hk⟩=>⟨he,n+k,by rw[hk];exact Pf _ _ _⟩
theorem G7 {a b:Bool}(h:a=b):Ending.returned (.bool a)=.returned (.bool b):=by rw[h]
theorem J0 {k:IntKind}{a b:Int}(h:a=b):Ending.returned (.int k a)=.returned (.int k b):=by rw[h]
structure Pq (w0:World) where
 w:World
 h:Am w0 w
theorem Pi {P:Program}{id:Nat}{Q:Exit→Act→World→Prop}{a:Act}{w:World}{l:List Oper}(hm:P.follows .mixedOrders=true)(hB:Region.lexB .any l.toArray=true)
 (h:wpQuiet P l.toArray (fun w'=>∃i:Pq w,w'=i.w) (fun a'=>∀w',(∃i:Pq w,w'=i.w)→Q .normal a' w') l a):(Code.region id l.toArray true).wp P Q a w:=
 wp_region_quiet (C:=fun w'=>∃i:Pq w,w'=i.w) hm hB ⟨⟨w.drew,Am.drew w⟩,rfl⟩ (by simpa using h)
theorem Qz {P:Program}{f:FuncId}{args:Array Value}{w:World}{i:Pq w}{v:Value}(h:Calls P f args i.w fun e w'=>e=.returned v∧Am i.w w'):
 Calls P f args i.w fun e w''=>e=.returned v∧∃j:Pq w,w''=j.w:=
 h.mono fun _ w'' ⟨he,hx⟩=>⟨he,⟨w'',i.h.trans hx⟩,rfl⟩
theorem Pq.cell {w0:World}(i:Pq w0){p:Addr}{v:Value}(h:w0.cell? p=some v):i.w.cell? p=some v:=i.h.cell h
theorem Ku (a:Addr)(i j:Nat):(a.add i).add j=a.add (i+j):=by
 unfold Addr.add;by_cases hi:i=0<;>by_cases hj:j=0<;>simp[hi,hj,Nat.add_assoc]
theorem E5 (a:Addr):a.add 0=a:=by unfold Addr.add;simp
def Rd (w:World)(z:Nat)(A:Option Addr)(n c:Nat)(xs:List Value):Prop:=
 xs.length=n*z∧n≤c∧c≤maxLen∧(0<n→∃ad,A=some ad∧∀j u,xs[j]? = some u→w.cell? (ad.add j)=some u)
section
variable {w w':World} {z n c:Nat} {A:Option Addr} {xs:List Value}
theorem Rd.len (h:Rd w z A n c xs):xs.length=n*z:=h.1
theorem Rd.ncap (h:Rd w z A n c xs):n≤c:=h.2.1
theorem Rd.nmax (h:Rd w z A n c xs):c≤maxLen:=h.2.2.1
theorem Rd.ext (h:Rd w z A n c xs)(he:Am w w'):Rd w' z A n c xs:=by
 obtain⟨h1,h2,h3,h4⟩:=h;refine⟨h1,h2,h3,fun hn=>?_⟩
 obtain⟨ad,e,hc⟩:=h4 hn;exact⟨ad,e,fun j u hu=>he.cell (hc j u hu)⟩
theorem Rd.keep (h:Rd w z A n c xs)(hk:∀p u,w.cell? p=some u→w'.cell? p=some u):Rd w' z A n c xs:=by
 obtain⟨h1,h2,h3,h4⟩:=h;refine⟨h1,h2,h3,fun hn=>?_⟩
 obtain⟨ad,e,hc⟩:=h4 hn;exact⟨ad,e,fun j u hu=>hk _ _ (hc j u hu)⟩
theorem Rd.at_ (h:Rd w z A n c xs){k:Nat}(hk:k<n):∃ad,A=some ad∧∀j u,xs[j]? = some u→w.cell? (ad.add j)=some u:=h.2.2.2 (by omega)
theorem Rd.none_ (w:World)(z:Nat):Rd w z none 0 0 []:=⟨by simp,Aj _,Nat.zero_le _,fun h=>absurd h (by omega)⟩
theorem Rd.cut (h:Rd w z A n c xs){k m:Nat}(hk:k≤m)(hm:m≤n):
 Rd w z (if c=k then A else A.map (·.add (k*z))) (m-k) (c-k) ((xs.drop (k*z)).take ((m-k)*z)):=by
 obtain⟨h1,h2,h3,h4⟩:=h;refine⟨?_,by omega,by omega,fun hn=>?_⟩
 ·rw[List.length_take,List.length_drop,h1,←Nat.sub_mul]
  exact Nat.min_eq_left (Nat.mul_le_mul_right _ (by omega))
 ·obtain⟨ad,rfl,hc⟩:=h4 (by omega)
  rw[if_neg (by omega)]
  refine⟨ad.add (k*z),rfl,fun j u hu=>?_⟩
  rw[Ku];refine hc _ u ?_
  rw[Xq]at hu;split at hu
  ·rw[←hu,List.getElem?_drop]
  ·cases hu
end
def gI (l:List Int)(k:Nat):Int:=l[k]?.getD 0
def Bj (w:World)(A:Option Addr)(n c:Nat)(l:List Int):Prop:=Rd w 1 A n c (l.map (Ar .i64))
theorem Bj.len {w:World}{A:Option Addr}{n c:Nat}{l:List Int}(h:Bj w A n c l):l.length=n:=by
 have:=Rd.len h;simpa using this
theorem Bj.ext {w w':World}{A:Option Addr}{n c:Nat}{l:List Int}(h:Bj w A n c l)(he:Am w w'):Bj w' A n c l:=Rd.ext h he
theorem Bj.at_ {w:World}{A:Option Addr}{n c:Nat}{l:List Int}(h:Bj w A n c l){k:Nat}(hk:k<n):
 ∃ad,A=some ad∧∀j,j<n→w.cell? (ad.add j)=some (.int .i64 (gI l j)):=by
 obtain⟨ad,e,hc⟩:=Rd.at_ h hk;refine⟨ad,e,fun j hj=>hc j _ ?_⟩
 have hl:=h.len;simp[gI,show j<l.length by omega]
theorem Bj.cut {w:World}{A:Option Addr}{n c:Nat}{l:List Int}(h:Bj w A n c l){k m:Nat}(hk:k≤m)(hm:m≤n):
 Bj w (if c=k then A else A.map (·.add k)) (m-k) (c-k) ((l.drop k).take (m-k)):=by
 have:=Rd.cut h hk hm;unfold Bj;rw[List.map_take,List.map_drop]
 simpa using this
theorem Bj.front {w:World}{A:Option Addr}{n c:Nat}{l:List Int}(h:Bj w A n c l){k:Nat}(hk:k≤n):Bj w A k c (l.take k):=by
 have h1:=h.len;have h2:=Rd.ncap h;refine⟨by simp;omega,by omega,Rd.nmax h,fun hn=>?_⟩
 obtain⟨ad,e,hc⟩:=Rd.at_ h (k:=0) (by omega)
 refine⟨ad,e,fun j u hu=>hc j u ?_⟩
 rw[List.map_take,Xq]at hu;split at hu
 ·exact hu
 ·cases hu
theorem Bj.back {w:World}{a:Addr}{n c:Nat}{l:List Int}(h:Bj w (some a) n c l){k:Nat}(hk:k≤n):Bj w (some (a.add k)) (n-k) (c-k) (l.drop k):=by
 have h1:=h.len;have h2:=Rd.ncap h;have h3:=Rd.nmax h;refine⟨by simp;omega,by omega,by omega,fun hn=>⟨_,rfl,fun j u hu=>?_⟩⟩
 obtain⟨ad,e,hc⟩:=Rd.at_ h (k:=0) (by omega)
 injection e with e;subst e;rw[Ku];refine hc _ u ?_
 rw[←hu,List.map_drop,List.getElem?_drop]
theorem Bj.none_ (w:World):Bj w none 0 0 []:=Rd.none_ w 1
theorem Bj.ncap {w:World}{A:Option Addr}{n c:Nat}{l:List Int}(h:Bj w A n c l):n≤c:=Rd.ncap h
theorem Bj.nmax {w:World}{A:Option Addr}{n c:Nat}{l:List Int}(h:Bj w A n c l):c≤maxLen:=Rd.nmax h
theorem Bj.one {w:World}{A:Option Addr}{n c:Nat}{l:List Int}(_:Bj w A n c l):∀u∈l.map (Ar .i64),u.oneCell'=true:=ints_oneCell _ _
def B8 (w:World)(base e z:Nat)(A:Option Addr)(n c:Nat)(xs:List Value):Prop:=w.ownsRow base e z (.slice A n c) n xs
def Ay (w:World)(base:Nat)(A:Option Addr)(n c:Nat)(l:List Int):Prop:=B8 w base 3 1 A n c (l.map (Ar .i64))
section
variable {w w':World} {base e z n c:Nat} {A:Option Addr} {xs:List Value} {l:List Int}
theorem B8.rd (h:B8 w base e z A n c xs):Rd w z A n c xs:=by
 obtain⟨h1,h2⟩:=h;rcases h2 with⟨hv,rfl⟩|⟨g,cap,cur,hv,hb,hg,hn,hcap,hcur,htake⟩
 ·injection hv with hA _ hc
  subst hA;subst hc;obtain rfl:xs=[]:=List.eq_nil_of_length_eq_zero (by simpa using h1)
  exact Rd.none_ w z
 ·injection hv with hA _ hc
  subst hA;subst hc;refine⟨h1,hn,hcap,fun _=>⟨_,rfl,?_⟩⟩
  have hown:w.ownsRow base e z (.slice (some ⟨g,0,none⟩) n c) n xs:=⟨h1,.inr ⟨g,c,cur,rfl,hb,hg,hn,hcap,hcur,htake⟩⟩;exact hown.cells (g:=g) rfl
theorem Ay.ints (h:Ay w base A n c l):Bj w A n c l:=B8.rd h
theorem B8.nil (w:World)(base e z:Nat):B8 w base e z none 0 0 []:=World.ownsRow_nil w base e z
theorem Ay.nil (w:World)(base:Nat):Ay w base none 0 0 []:=World.ownsRow_nil w base _ _
theorem B8.ext (h:B8 w base e z A n c xs)(he:Am w w'):B8 w' base e z A n c xs:=by
 obtain⟨h1,h2⟩:=h;refine⟨h1,?_⟩
 rcases h2 with h2|⟨g,cap,cur,hv,hb,hg,r⟩
 ·exact .inl h2
 ·exact .inr ⟨g,cap,cur,hv,hb,(Below.block he g (Array.getElem?_eq_some_iff.1 hg).1).trans hg,r⟩
theorem Ay.ext (h:Ay w base A n c l)(he:Am w w'):Ay w' base A n c l:=B8.ext h he
theorem B8.lower {base':Nat}(h:B8 w base e z A n c xs)(hb:base'≤base):B8 w base' e z A n c xs:=by
 obtain⟨h1,h2⟩:=h;refine⟨h1,?_⟩
 rcases h2 with h2|⟨g,cap,cur,hv,hbb,r⟩
 ·exact .inl h2
 ·exact .inr ⟨g,cap,cur,hv,Aq hb hbb,r⟩
theorem B8.len (h:B8 w base e z A n c xs):xs.length=n*z:=h.1
end
section
variable {w w':World} {base e z n c:Nat} {A:Option Addr} {xs:List Value}
theorem B8.pop {k:Nat}(h:B8 w base e 1 A n c xs)(hk:k≤n)(hn:0<n):B8 w base e 1 A k c (xs.take k):=by
 obtain⟨h1,h2⟩:=h;rcases h2 with⟨_,h0⟩|⟨g,cap,cur,hv,hb,hg,hnc,hcap,hcur,ht⟩
 ·omega
 ·injection hv with hA _ hc
  subst hA;subst hc;refine⟨by simp;omega,.inr ⟨g,c,cur,rfl,hb,hg,by omega,hcap,hcur,?_⟩⟩
  rw[←ht,List.take_take]
  congr 1
  omega
theorem B8.kept (h:B8 w base e z A n c xs){row:Option Nat}(hg:w.grownBy w' row)(hne:(Ak A n c).ownBlock=none∨(Ak A n c).ownBlock≠row):B8 w' base e z A n c xs:=
 World.ownsRow.kept h hg hne
theorem B8.setCell (h:B8 w base e z A n c xs){p:Addr}(hp:p.block<base)(u:Value):B8 (w.setCell p u) base e z A n c xs:=ownsRow_setCell_below h hp u
theorem B8.blk (h:B8 w base e z A n c xs):∀g,(Ak A n c).ownBlock=some g→base≤g∧g<w.heap.size:=World.ownsRow.lt h
end
theorem Am.grown {w0 w w':World}{v:Value}{base e z n:Nat}{xs:List Value}(h:Am w0 w)(hg:w.grownBy w' v.ownBlock)(hown:w.ownsRow base e z v n xs)(hb:w0.heap.size≤base):Am w0 w':=
 Below.grown h hg h.size (fun k hk=>Aq hb (hown.lt k hk).1)
def Ap (w:World)(g:Nat)(t:TypeId)(cs:Array Value):Prop:=w.heap[g]? = some (.cells cs t (0,0))
section
variable {w w':World} {g:Nat} {t:TypeId} {cs:Array Value}
theorem Ap.lt (h:Ap w g t cs):g<w.heap.size:=by
 rcases Nat.lt_or_ge g w.heap.size with hlt|hge
 ·exact hlt
 ·unfold Ap at h;rw[Array.getElem?_eq_none hge]at h;cases h
theorem Ap.cell (h:Ap w g t cs)(i:Nat):w.cell? ⟨g,i,none⟩=cs[i]? := cell_of_row w g i cs t (0,0) h
theorem Ap.frozen (h:Ap w g t cs)(i:Nat):w.frozen? ⟨g,i,none⟩=false:=by
 unfold Ap at h;simp[World.frozen?,h]
theorem Ap.new (w:World)(t:TypeId)(cs:Array Value):Ap (w.alloc (.cells cs t)) w.heap.size t cs:=heap_alloc_new w _
theorem Ap.ext (h:Ap w g t cs)(he:Am w w'):Ap w' g t cs:=(Below.block he g h.lt).trans h
theorem Ap.grown (h:Ap w g t cs){row:Option Nat}(hb:w.grownBy w' row)(hg:some g≠row):Ap w' g t cs:=(hb.block g h.lt hg).trans h
theorem Ap.drewN (h:Ap w g t cs)(n:Nat):Ap (w.drewN n) g t cs:=h
theorem Ap.set_ (h:Ap w g t cs)(i:Nat)(u:Value):Ap (w.setCell ⟨g,i,none⟩ u) g t (cs.setIfInBounds i u):=by
 unfold Ap at h ⊢;simp[World.setCell,Array.getElem?_modify,h]
end
theorem Ap.ints {w:World}{g:Nat}{t:TypeId}{l:List Int}{n:Nat}(h:Ap w g t (l.map (Ar .i64)).toArray)(hn:n=l.length)(hm:n≤maxLen):
 Bj w (some ⟨g,0,none⟩) n n l:=by
 subst hn;refine⟨by simp,Aj _,hm,fun _=>⟨_,rfl,fun j u hu=>?_⟩⟩
 have:(⟨g,0,none⟩:Addr).add j=⟨g,j,none⟩:=by simp[Addr.add_lit]
 rw[this,h.cell j]
 simpa using hu
theorem Uk {w:World}{g t:Nat}{l:List Int}(h:Ap w g t (l.map (Ar .i64)).toArray){k:Nat}(hk:k<l.length):w.cell? ⟨g,k,none⟩=some (.int .i64 (gI l k)):=by
 rw[h.cell k];simp[gI,hk]
theorem Sd {w:World}{g t:Nat}{l:List Int}(h:Ap w g t (l.map (Ar .i64)).toArray)(k:Nat)(u:Int):Ap (w.setCell ⟨g,k,none⟩ (.int .i64 u)) g t ((l.set k u).map (Ar .i64)).toArray:=by
 have:=h.set_ k (.int .i64 u);rw[List.map_set,←List.setIfInBounds_toArray];exact this
theorem S5 (n:Nat):madeCells (Ar .i64 0).cells n=((List.replicate n (0:Int)).map (Ar .i64)).toArray:=by
 apply Array.ext
 ·simp[size_madeCells]
 ·intro i h1 h2
  simp[madeCells,Value.cells,Nat.mod_one]
section
variable {P:Program} {ops:Array Oper} {rest:List Oper} {o:Oper} {a:Act} {Q:Exit→Act→World→Prop}
theorem Ew {w:World}(hgd:o.guard=none)(s x:Operand)(t:TypeId)
 (ho:o.op=.call { callee:=.builtin .append,args:=#[s,x],argTypes:=#[t,t] })
 (w0:World) (base e:Nat) (i:TypeInfo) (zv:Value) (z bytes:Nat) (ht:P.underlying t=some (.slice e)) (hi:P.info? e=some i) (hz:i.zero=some zv)
 (hsize:i.size=z) (hby:i.bytes=bytes) (hzs:zv.cells.size=z) (hsz:0<z)
 (A:Option Addr) (n c:Nat) (xs:List Value) (hs:a.eval s=.slice A n c) (hown:B8 w base e z A n c xs)
 (B:Option Addr) (m d:Nat) (news:List Value) (hx:a.eval x=.slice B m d) (hr:Rd w z B m d news) (h1:∀u∈news,u.oneCell'=true)
 (h63:n+m≤maxLen) (hbytes:(n+m)*bytes≤140737488355328) (he:Am w0 w) (hb:w0.heap.size≤base) (hbase:base≤w.heap.size)
 (h:∀A' c' w',B8 w' base e z A' (n+m) c' (xs++news)→w.grownBy w' (Ak A n c).ownBlock→((Ak A' (n+m) c').ownBlock=(Ak A n c).ownBlock∨(Ak A' (n+m) c').ownBlock=some w.heap.size)→Am w0 w'→
  wpList P ops Q rest (a.put o.dst (.slice A' (n+m) c')) w'):wpList P ops Q (o::rest) a w:=by
 have N1:=trivial;exact K16
theorem Rf {w w':World}(hgd:o.guard=none)(s x:Operand)(t t':TypeId)
 (ho:o.op=.call { callee:=.builtin .append,args:=#[s,x],argTypes:=#[t,t'] }) (u v r:Value) (hs:a.eval s=u) (hx:a.eval x=v)
 (hrun:(Builtin.append_ #[t,t'] o.type #[u,v]).run P w=.ok r w') (h:wpList P ops Q rest (a.put o.dst r) w'):wpList P ops Q (o::rest) a w:=by
 refine wpList_plain hgd fun K hK=>?_
 unfold Oper.wp execOp;simp only[ho,resolve,invoke,builtin,Sem.run_bind,Sem.run_pure,Result.andThen_ok,List.map_toArray,List.map_cons,List.map_nil,hs,hx,hrun];exact hK _ _ h
theorem Cl {w1:World}(hgd:o.guard=none)(s x:Operand)(t:TypeId)
 (ho:o.op=.call { callee:=.builtin .append,args:=#[s,x],argTypes:=#[t,t] })
 (w0:World) (base e:Nat) (i:TypeInfo) (zv:Value) (z bytes:Nat) (ht:P.underlying t=some (.slice e)) (hi:P.info? e=some i) (hz:i.zero=some zv)
 (hsize:i.size=z) (hby:i.bytes=bytes) (hzs:zv.cells.size=z) (hsz:0<z)
 (A:Option Addr) (n c:Nat) (xs:List Value) (hs:a.eval s=.slice A n c) (hown:B8 w1 base e z A n c xs)
 (us:Array Value) (hu:us.size=z) (h1:∀u∈us.toList,u.oneCell'=true) (hx:a.eval x=.slice (some ⟨w1.heap.size,0,none⟩) 1 1)
 (h63:n+1≤maxLen) (hbytes:(n+1)*bytes≤140737488355328) (he:Am w0 w1) (hb:w0.heap.size≤base) (hbase:base≤w1.heap.size)
 (h:∀A' c' w',B8 w' base e z A' (n+1) c' (xs++us.toList)→w1.grownBy w' (Ak A n c).ownBlock→((Ak A' (n+1) c').ownBlock=(Ak A n c).ownBlock∨∃g,w1.heap.size≤g∧(Ak A' (n+1) c').ownBlock=some g)→Am w0 w'→
  wpList P ops Q rest (a.put o.dst (.slice A' (n+1) c')) w'):wpList P ops Q (o::rest) a (w1.alloc (.cells us e)):=by
 have N0:=trivial;exact K44
end
theorem C8:(Tryz.prog.info? 3).map (fun i=>(i.zero,i.size,i.bytes))=some (some (.int .i64 0),1,8):=by kernel_rfl
def Tj (l m:List Int):Bool:=decide (l=m)
theorem Lv {l m:List Int}:Tj l m=true↔l=m:=by simp[Tj]
theorem X8 {l m:List Int}:Tj l m=false↔l≠m:=by simp[Tj]
theorem Yi {l m:List Int}{n k:Nat}(hl:l.length=n)(hm:m.length=n)(hk:k<n)(h:l.take k=m.take k)(he:gI l k=gI m k):l.take (k+1)=m.take (k+1):=by
 have h1:k<l.length:=by omega
 have h2:k<m.length:=by omega
 rw[Z2e h1,Z2e h2,h];simp[gI,h1,h2]at he;rw[he]
theorem J0q {l m:List Int}{n:Nat}(hl:l.length=n)(hm:m.length=n)(h:l.take n=m.take n):l=m:=by
 rwa[Bl (by omega),Bl (by omega)]at h
theorem Qq {P:Program}{ops:Array Oper}{o:Oper}{a:Act}{w:World}{K:Act→World→Prop}{Q:Exit→Act→World→Prop}{E:Prop}(hgd:o.guard=none)(s x:Operand)(t:TypeId)
 (ho:o.op=.call { callee:=.builtin .append,args:=#[s,x],argTypes:=#[t,t] })
 (w0:World) (base e:Nat) (i:TypeInfo) (zv:Value) (z bytes:Nat) (ht:P.underlying t=some (.slice e)) (hi:P.info? e=some i) (hz:i.zero=some zv)
 (hsize:i.size=z) (hby:i.bytes=bytes) (hzs:zv.cells.size=z) (hsz:0<z)
 (A:Option Addr) (n c:Nat) (xs:List Value) (hs:a.eval s=.slice A n c) (hown:B8 w base e z A n c xs)
 (B:Option Addr) (m d:Nat) (news:List Value) (hx:a.eval x=.slice B m d) (hr:Rd w z B m d news) (h1:∀u∈news,u.oneCell'=true)
 (h63:n+m≤maxLen) (hbytes:(n+m)*bytes≤140737488355328) (he:Am w0 w) (hb:w0.heap.size≤base) (hbase:base≤w.heap.size)
 (h:∀A' c' w',B8 w' base e z A' (n+m) c' (xs++news)→w.grownBy w' (Ak A n c).ownBlock→((Ak A' (n+m) c').ownBlock=(Ak A n c).ownBlock∨(Ak A' (n+m) c').ownBlock=some w.heap.size)→Am w0 w'→
  K (a.put o.dst (.slice A' (n+m) c')) w'):if Bp o (yielded ops a.tmps)=true then Oper.wp P o a w K Q else E:=by
 have N0:=trivial;exact K16
theorem Jd {P:Program}{ops:Array Oper}{o:Oper}{a:Act}{w:World}{K:Act→World→Prop}{Q:Exit→Act→World→Prop}{E:Prop}(hgd:o.guard=none)
 (f:FuncId) (args:Array Value) (hrun:(execOp a.eval o).run P w=.ok (.enter f args) w) (R:Value→World→Prop)
 (hc:Calls P f args w fun e w'=>∃v,e=.returned v∧R v w') (h:∀v w',R v w'→K (a.put o.dst v) w'):if Bp o (yielded ops a.tmps)=true then Oper.wp P o a w K Q else E:=by
 have hw:Bp o (yielded ops a.tmps)=true:=by simp[Bp,hgd]
 rw[if_pos hw];exact I16
theorem Nk {P:Program}{ops:Array Oper}{o:Oper}{a:Act}{K:Act→World→Prop}{Q:Exit→Act→World→Prop}{E:Prop}{w1:World}(hgd:o.guard=none)(s x:Operand)(t:TypeId)
 (ho:o.op=.call { callee:=.builtin .append,args:=#[s,x],argTypes:=#[t,t] })
 (w0:World) (base e:Nat) (i:TypeInfo) (zv:Value) (z bytes:Nat) (ht:P.underlying t=some (.slice e)) (hi:P.info? e=some i) (hz:i.zero=some zv)
 (hsize:i.size=z) (hby:i.bytes=bytes) (hzs:zv.cells.size=z) (hsz:0<z)
 (A:Option Addr) (n c:Nat) (xs:List Value) (hs:a.eval s=.slice A n c) (hown:B8 w1 base e z A n c xs)
 (us:Array Value) (hu:us.size=z) (h1:∀u∈us.toList,u.oneCell'=true) (hx:a.eval x=.slice (some ⟨w1.heap.size,0,none⟩) 1 1)
 (h63:n+1≤maxLen) (hbytes:(n+1)*bytes≤140737488355328) (he:Am w0 w1) (hb:w0.heap.size≤base) (hbase:base≤w1.heap.size)
 (h:∀A' c' w',B8 w' base e z A' (n+1) c' (xs++us.toList)→w1.grownBy w' (Ak A n c).ownBlock→((Ak A' (n+1) c').ownBlock=(Ak A n c).ownBlock∨∃g,w1.heap.size≤g∧(Ak A' (n+1) c').ownBlock=some g)→Am w0 w'→
  K (a.put o.dst (.slice A' (n+1) c')) w'):if Bp o (yielded ops a.tmps)=true then Oper.wp P o a (w1.alloc (.cells us e)) K Q else E:=by
 have N1:=trivial;exact K44
theorem Bu {P:Program}{ops:Array Oper}{o:Oper}{a:Act}{w:World}{K:Act→World→Prop}{Q:Exit→Act→World→Prop}{E:Prop}{ars:Array Operand}{tys:Array TypeId}(hgd:o.guard=none)
 (f:FuncId) (args:Array Value) (ho:o.op=.call { callee:=.value (.func f),args:=ars,argTypes:=tys }) (hrun:(execOp a.eval o).run P w=.ok (.enter f args) w) (R:Value→World→Prop)
 (hc:Calls P f args w fun e w'=>∃v,e=.returned v∧R v w') (h:∀v w',R v w'→K (a.put o.dst v) w'):if Bp o (yielded ops a.tmps)=true then Oper.wp P o a w K Q else E:=by
 have hw:Bp o (yielded ops a.tmps)=true:=by simp[Bp,hgd]
 rw[if_pos hw];exact I16
theorem Zy {A B:Option Addr}{n c m d:Nat}{l l':List Int}{w:World}(hl:Bj w A n c l)(hl':Bj w B m d l'):
 Calls Tryz.prog 12 #[.slice A n c,.slice B m d] w fun e w'=>e=.returned (.bool (Tj l l'))∧∃k,w'=w.drewN k:=by
 have h1:=hl.ncap;have h2:=hl.nmax;have h3:=hl'.ncap;have h4:=hl'.nmax;have e1:=A6 hl.len;have e2:=A6 hl'.len;unfold maxLen at h2 h4;by_cases hnm:n=m
 ·subst hnm
  have hne:((n:Int) !=(n:Int))=false:=by simp
  go_enter Tryz.func12,Tryz.ntmps12
  go_wp2_with fail
  go_loopw [13] (fun i wr=>∃k:Nat,k≤n∧i=.int .i64 k∧Hid (l.take k=l'.take k)∧∃q,wr=w.drewN q) (fun i _=>n-(intOf i).toNat)
  case atStart=>exact⟨0,by omega,rfl,rfl,0,rfl⟩
  case round=>
   obtain⟨k,hk,rfl,ht,q,rfl⟩:=hrel;by_cases hlt:k<n
   ·obtain⟨a1,rfl,hc1⟩:=hl.at_ hlt
    obtain⟨a2,rfl,hc2⟩:=hl'.at_ hlt;have c1:=hc1 k hlt;have c2:=hc2 k hlt;clear hc1 hc2;by_cases heq:gI l k=gI l' k
    ·have b1:(gI l k !=gI l' k)=false:=by simpa using heq
     have HN:=A6 heq;clear heq;go_wp2_with fail
     go_quiet (fail)
     go_wp2_with fail
     go_roundw
     case rel=>exact⟨k+1,by omega,by go_num,Yi e1.out e2.out hlt ht.out HN.out,q+nq,rfl⟩
     case measure=>simp[intOf];omega
    ·have b1:(gI l k !=gI l' k)=true:=by simpa using heq
     have HN:=A6 heq;clear heq;go_wp2_with fail
     go_quiet (fail)
     go_wp2_with fail
     go_ret
     exact⟨G7 (X8.2 (fun e=>HN.out (by rw[e]))).symm,_,Pf _ _ _⟩
   ·obtain rfl:k=n:=by omega
    go_wp2_with fail
    go_ret
    exact⟨G7 (Lv.2 (J0q e1.out e2.out ht.out)).symm,_,rfl⟩
 ·have hne:((n:Int) !=(m:Int))=true:=by simp;omega
  have hf:Tj l l'=false:=X8.2 (fun e=>hnm (by rw[←e1.out,←e2.out,e]))
  go_enter Tryz.func12,Tryz.ntmps12
  go_wp2_with fail
  go_ret
  exact⟨G7 hf.symm,0,rfl⟩
theorem Jg {A B:Option Addr}{n c m d:Nat}{l l':List Int}{w:World}(hl:Bj w A n c l)(hl':Bj w B m d l'):
 Calls Tryz.prog 12 #[.slice A n c,.slice B m d] w fun e w'=>e=.returned (.bool (Tj l l'))∧Am w w':=
 (Zy hl hl').mono fun e w' ⟨h1,k,h2⟩=>⟨h1,by rw[h2];exact Am.drewN _ _⟩
def T9 (l:List Int)(m k:Nat):Prop:=k<m∧∀j,j<k→gI l j=gI l (m-k+j)
instance (l:List Int)(m k:Nat):Decidable (T9 l m k):=by unfold T9;exact inferInstance
theorem J0f {l:List Int}{m:Nat}(h:0<m):T9 l m 0:=⟨h,fun _ h=>absurd h (by omega)⟩
def Tp (l:List Int)(m:Nat):Nat→Nat
 |0=>0
 |k+1=>if T9 l m (k+1)then k+1 else Tp l m k
def bl (l:List Int)(m:Nat):Nat:=Tp l m (m-1)
theorem J9r {l:List Int}{m:Nat}(hm:0<m)(k:Nat):T9 l m (Tp l m k):=by
 induction k with
 |zero=>exact J0f hm
 |succ k ih=>unfold Tp;split<;>assumption
theorem J9q {l:List Int}{m:Nat}(k:Nat){j:Nat}(hj:T9 l m j)(hk:j≤k):j≤Tp l m k:=by
 induction k with
 |zero=>simp[Tp];omega
 |succ k ih=>
  unfold Tp;split
  ·exact hk
  ·rename_i hn
   rcases Av k j with h|h
   ·obtain rfl:j=k+1:=by omega
    exact absurd hj hn
   ·exact ih h
theorem Ro {l:List Int}{m:Nat}(hm:0<m):T9 l m (bl l m):=J9r hm _
theorem Tu {l:List Int}{m j:Nat}(hj:T9 l m j):j≤bl l m:=J9q _ hj (by have:=hj.1;omega)
theorem Vw {l:List Int}{m:Nat}(hm:0<m):bl l m<m:=(Ro hm).1
theorem Q8v {l:List Int}{m k:Nat}(hk:T9 l m k)(hmax:∀j,T9 l m j→j≤k):bl l m=k:=
 Nat.le_antisymm (hmax _ (Ro (by have:=hk.1;omega))) (Tu hk)
theorem J9k {l:List Int}{i k j:Nat}(h:T9 l i k)(h':T9 l k j):T9 l i j:=by
 refine⟨by have:=h.1;have:=h'.1;omega,fun t ht=>?_⟩
 have h1:=h'.1;exact I110
theorem J4n {l:List Int}{i k j:Nat}(h:T9 l i k)(h':T9 l i j)(hlt:j<k):T9 l k j:=by
 refine⟨hlt,fun t ht=>?_⟩
 exact I110
theorem Uj {l:List Int}{i k:Nat}(h:T9 l (i+1) (k+1)):T9 l i k∧gI l k=gI l i:=by
 refine⟨⟨by have:=h.1;omega,fun t ht=>?_⟩,?_⟩
 ·rw[h.2 t (by omega)];congr 1;omega
 ·have:=h.1
  rw[h.2 k (by omega)];congr 1;omega
theorem Q4v {l:List Int}{i k:Nat}(h:T9 l i k)(he:gI l k=gI l i):T9 l (i+1) (k+1):=by
 refine⟨by have:=h.1;omega,fun t ht=>?_⟩
 have:=h.1;rcases Av t k with h1|h1
 ·rw[h.2 t h1];congr 1;omega
 ·obtain rfl:t=k:=by omega
  rw[he];congr 1;omega
def J6f (l:List Int)(i k:Nat):Prop:=T9 l i k∧∀j,T9 l (i+1) (j+1)→j≤k
theorem J4h {l:List Int}{i:Nat}(hi:0<i):J6f l i (bl l i):=⟨Ro hi,fun _ h=>Tu (Uj h).1⟩
theorem J9g {l:List Int}{i k:Nat}(h:J6f l i k)(hk:0<k)(hne:gI l k≠gI l i):J6f l i (bl l k):=by
 refine⟨J9k h.1 (Ro hk),fun j hj=>?_⟩
 have h1:=h.2 j hj;obtain⟨h2,h3⟩:=Uj hj;have:j≠k:=fun e=>hne (by rw[←e];exact h3)
 exact Tu (J4n h.1 h2 (by omega))
theorem R6 {l:List Int}{i k:Nat}(h:J6f l i k)(he:gI l k=gI l i):bl l (i+1)=k+1:=
 Q8v (Q4v h.1 he) fun j hj=>by
  rcases j with _|j
  ·omega
  ·have:=h.2 j hj;omega
theorem Xh {l:List Int}{i:Nat}(h:J6f l i 0)(hne:gI l 0≠gI l i):bl l (i+1)=0:=
 Q8v (J0f (by omega)) fun j hj=>by
  rcases j with _|j
  ·omega
  ·have:=h.2 j hj
   obtain rfl:j=0:=by omega
   exact absurd (Uj hj).2 hne
def Qc (l:List Int):List Int:=(List.range l.length).map fun i=>(bl l (i+1):Int)
def Ky (l:List Int)(i:Nat):List Int:=(List.range l.length).map fun j=>if j<i then(bl l (j+1):Int)else 0
theorem Q4s (l:List Int)(i:Nat):(Ky l i).length=l.length:=by simp[Ky]
theorem Q0z (l:List Int):bl l 1=0:=by have:=@Vw l 1 (by omega);omega
theorem J4l (l:List Int):Ky l 1=List.replicate l.length 0:=by
 apply List.ext_getElem
 ·simp[Ky]
 ·intro j h1 h2
  simp[Ky];intro h;obtain rfl:j=0:=by omega
  simp[Q0z]
theorem Q4u (l:List Int){i:Nat}(h:l.length≤i):Ky l i=Qc l:=by
 apply List.ext_getElem
 ·simp[Ky,Qc]
 ·intro j h1 h2
  simp[Ky,Qc]at h1 ⊢;omega
theorem Q4r (l:List Int){i:Nat}:(Ky l i).set i (bl l (i+1))=Ky l (i+1):=by
 apply List.ext_getElem
 ·simp[Ky]
 ·intro j h1 h2
  rw[List.getElem_set];simp[Ky];split
  ·rename_i e;subst e;simp
  ·rename_i hne;by_cases hj:j<i
   ·rw[if_pos hj,if_pos (by omega)]
   ·rw[if_neg hj,if_neg (by omega)]
theorem Q4t (l:List Int){i k:Nat}(h:k<i)(hi:i≤l.length)(hk:0<k):gI (Ky l i) (k-1)=(bl l k:Int):=by
 have:k-1<l.length:=by omega
 simp[gI,Ky,this];rw[if_pos (by omega),show k-1+1=k by omega]
theorem Xj (l:List Int){k:Nat}(hi:k≤l.length)(hk:0<k):gI (Qc l) (k-1)=(bl l k:Int):=by
 have:k-1<l.length:=by omega
 simp[gI,Qc,this];rw[show k-1+1=k by omega]
theorem Xi (l:List Int){i j:Nat}(h:j<l.length):((Ky l i).map (Ar .i64)).toArray[j]? = some (.int .i64 (gI (Ky l i) j)):=by
 have:j<(Ky l i).length:=by rw[Q4s];exact h
 simp[gI,this]
theorem Q3 {w:World}{g j:Nat}{t:TypeId}{l:List Int}{u:Int}(h:Ap w g t ((Ky l j).map (Ar .i64)).toArray)(hu:u=(bl l (j+1):Int)):
 Ap (w.setCell ⟨g,j,none⟩ (.int .i64 u)) g t ((Ky l (j+1)).map (Ar .i64)).toArray:=by
 have:=h.set_ j (.int .i64 u);rw[←Q4r,←hu,List.map_set,←List.setIfInBounds_toArray];exact this
theorem J9m (l:List Int):(Qc l).length=l.length:=by simp[Qc]
theorem Vn:(Tryz.prog.info? 3).map (fun i=>(i.zero,i.size,i.bytes))=some (some (.int .i64 0),1,8):=by kernel_rfl
theorem J4m {l:List Int}{A:Option Addr}{n c:Nat}{w:World}(hl:Bj w A n c l)(hn:n≤4096):
 Calls Tryz.prog 184 #[.slice A n c] w fun e w'=>∃g,e=.returned (.tuple #[.slice (some ⟨g,0,none⟩) n n,.int .i64 0])∧Ap w' g 3 ((Qc l).map (Ar .i64)).toArray∧w.heap.size≤g∧Am w w':=by
 obtain⟨i0,hi,hz0,hz1,hz2⟩:=info_parts Vn;have hlen:=hl.len;have hmk:∀u:World,(Instr.makeSlice 25 (.int .i64 (n:Int)) (.int .i64 (n:Int))).run Tryz.prog u=
  .ok (.slice (some ⟨u.heap.size,0,none⟩) n n) (u.alloc (.cells (madeCells #[.int .i64 0] n) 3)):=fun u=>by
  have h:=run_make (P:=Tryz.prog) u 25 3 i0 (.int .i64 0) Tryz.underlying25 hi hz0 .i64 .i64 (n:Int) (n:Int) (by omega) (Int.le_refl _) (by rw[hz2];omega) (by omega)
  simpa[hz1,Value.cells]using h
 have Hl:=A6 hlen;clear hlen;go_enter Tryz.func184,Tryz.ntmps184
 go_wp2_with fail
 go_loopw [5,6] (fun k i wr=>∃(kn j:Nat),1≤j∧(j≤n∨n=0)∧k=.int .i64 kn∧i=.int .i64 j∧Hid (kn=bl l j)∧
  Ap wr w.heap.size 3 ((Ky l j).map (Ar .i64)).toArray∧Am w wr) (fun _ i _=>n-(intOf i).toNat)
 case atStart=>
  refine⟨0,1,by omega,by omega,rfl,rfl,(Q0z l).symm,?_,Am.alloc _ _⟩
  rw[J4l,Hl.out,←S5];exact Ap.new _ _ _
 case round=>
  obtain⟨kn,j,hj1,hj2,rfl,rfl,hk,hb,he⟩:=hrel;by_cases hlt:j<n
  ·obtain⟨ad,rfl,hcell⟩:=hl.at_ hlt
   have hnle:=hlt;go_wp2_with fail
   go_loopw [5] (fun k w2=>∃kn:Nat,k=.int .i64 kn∧Hid (J6f l j kn)∧kn<j∧Ap w2 w.heap.size 3 ((Ky l j).map (Ar .i64)).toArray∧Am w w2) (fun k _=>(intOf k).toNat)
   case atStart=>exact⟨kn,rfl,by rw[hk.out];exact J4h hj1,by rw[hk.out];exact Vw hj1,hb,he⟩
   case round=>
    clear hk hb he;obtain⟨kn,rfl,hk,hkj,hb,he⟩:=hrel;have c1:=he.cell (hcell kn (by omega))
    have c2:=he.cell (hcell j (by omega))
    have c3:=(hb.cell j).trans (Xi l (by rw[Hl.out];exact hlt))
    have f3:=hb.frozen j;by_cases hk0:0<kn
    ·by_cases hne:gI l kn=gI l j
     ·have e1:(gI l kn==gI l j)=true:=by simpa using hne
      have e2:(gI l kn !=gI l j)=false:=by simpa using hne
      have HN:=A6 hne;clear hne;go_wp2_with fail
      go_quiet (fail)
      go_wp2_with fail
      go_quiet (fail)
      go_wp2_with fail
      go_roundw
      case rel=>exact⟨kn+1,j+1,by omega,by omega,by go_num,by go_num,(R6 hk.out HN.out).symm,Q3 (hb.drewN _) (by rw[R6 hk.out HN.out];omega),((he.to_drewN _).setCell (Aj _) _)⟩
      case measure=>simp[intOf];omega
     ·have e1:(gI l kn==gI l j)=false:=by simpa using hne
      have e2:(gI l kn !=gI l j)=true:=by simpa using hne
      have HN:=A6 hne;clear hne;have c4:=(hb.cell (kn-1)).trans (Xi l (by rw[Hl.out];omega))
      have e4:gI (Ky l j) (kn-1)=(bl l kn:Int):=Q4t l hkj (by rw[Hl.out];omega) hk0
      rw[e4]at c4;clear e4;go_wp2_with fail
      go_quiet (fail)
      go_wp2_with fail
      go_roundw
      case rel=>exact⟨bl l kn,rfl,J9g hk.out hk0 HN.out,by have:=@Vw l kn hk0;omega,hb,he.to_drewN _⟩
      case measure=>have:=@Vw l kn hk0;simp[intOf];omega
    ·obtain rfl:kn=0:=by omega
     have hn0:0<n:=by omega
     rw[E5]at c1;by_cases hne:gI l 0=gI l j
     ·have e1:(gI l 0==gI l j)=true:=by simpa using hne
      have HN:=A6 hne;clear hne;go_wp2_with fail
      go_quiet (fail)
      go_wp2_with fail
      go_quiet (fail)
      go_wp2_with fail
      go_roundw
      case rel=>exact⟨1,j+1,by omega,by omega,by go_num,by go_num,(R6 hk.out HN.out).symm,Q3 (hb.drewN _) (by rw[R6 hk.out HN.out];omega),((he.to_drewN _).setCell (Aj _) _)⟩
      case measure=>simp[intOf];omega
     ·have e1:(gI l 0==gI l j)=false:=by simpa using hne
      have HN:=A6 hne;clear hne;go_wp2_with fail
      go_quiet (fail)
      go_wp2_with fail
      go_quiet (fail)
      go_wp2_with fail
      go_roundw
      case rel=>exact⟨0,j+1,by omega,by omega,by go_num,by go_num,(Xh hk.out HN.out).symm,Q3 (hb.drewN _) (by rw[Xh hk.out HN.out];omega),((he.to_drewN _).setCell (Aj _) _)⟩
      case measure=>simp[intOf];omega
  ·go_wp2_with fail
   go_ret2
   exact⟨_,rfl,by rw[←Q4u l (show l.length≤j by rw[Hl.out];omega)];exact hb,Aj _,he⟩
theorem Yt {l:List Int}{A:Option Addr}{n c:Nat}{w:World}(hl:Bj w A n c l)(hn:n≤4096):
 Calls Tryz.prog 184 #[.slice A n c] w fun e w'=>∃B,e=.returned (.tuple #[.slice B n n,.int .i64 0])∧Bj w' B n n (Qc l)∧Am w w':=
 (J4m hl hn).mono fun e w' ⟨g,h1,h2,h3,h4⟩=>⟨_,h1,h2.ints (by rw[J9m,hl.len]) (by unfold maxLen;omega),h4⟩
def suf (p s:List Int)(i k:Nat):Prop:=k≤i∧k≤p.length∧∀j,j<k→gI p j=gI s (i-k+j)
def occ (p s:List Int)(x:Nat):Prop:=∀j,j<p.length→gI p j=gI s (x+j)
instance (p s:List Int)(x:Nat):Decidable (occ p s x):=by unfold occ;exact inferInstance
theorem Zc (p s:List Int)(i:Nat):suf p s i 0:=⟨Au _,Au _,fun _ h=>absurd h (by omega)⟩
theorem Qp {p s:List Int}{i k:Nat}(h:suf p s (i+1) (k+1)):suf p s i k∧gI p k=gI s i:=by
 obtain⟨h1,h2,h3⟩:=h;refine⟨⟨by omega,by omega,fun j hj=>?_⟩,?_⟩
 ·rw[h3 j (by omega)];congr 1;omega
 ·rw[h3 k (by omega)];congr 1;omega
theorem U3 {p s:List Int}{i k:Nat}(h:suf p s i k)(hk:k<p.length)(he:gI p k=gI s i):suf p s (i+1) (k+1):=by
 obtain⟨h1,h2,h3⟩:=h;refine⟨by omega,by omega,fun j hj=>?_⟩
 rcases Av j k with h4|h4
 ·rw[h3 j h4];congr 1;omega
 ·obtain rfl:j=k:=by omega
  rw[he];congr 1;omega
theorem J4y {p s:List Int}{i k j:Nat}(h:suf p s i k)(h':T9 p k j):suf p s i j:=by
 obtain⟨h1,h2,h3⟩:=h;have h4:=h'.1;refine⟨by omega,by omega,fun t ht=>?_⟩
 rw[h'.2 t ht,h3 (k-j+t) (by omega)]
 congr 1
 omega
theorem Va {p s:List Int}{i k j:Nat}(h:suf p s i k)(h':suf p s i j)(hlt:j<k):T9 p k j:=by
 obtain⟨h1,h2,h3⟩:=h;obtain⟨g1,g2,g3⟩:=h';refine⟨hlt,fun t ht=>?_⟩
 rw[g3 t ht,h3 (k-j+t) (by omega)]
 congr 1
 omega
def Xs (p s:List Int)(i k:Nat):Prop:=suf p s i k∧k<p.length∧∀j,suf p s i j→j<p.length→j≤k
def Tm (p s:List Int)(i k:Nat):Prop:=suf p s i k∧k<p.length∧∀j,suf p s (i+1) (j+1)→j≤k
theorem J3j {p:List Int}(s:List Int)(h:0<p.length):Xs p s 0 0:=⟨Zc _ _ _,h,fun j hj _=>hj.1⟩
theorem J4g {p s:List Int}{i k:Nat}(h:Xs p s i k):Tm p s i k:=
 ⟨h.1,h.2.1,fun j hj=>h.2.2 j (Qp hj).1 (by have:=hj.2.1;omega)⟩
theorem J9f {p s:List Int}{i k:Nat}(h:Tm p s i k)(hk:0<k)(hne:gI p k≠gI s i):Tm p s i (bl p k):=by
 have hb:=@Ro p k hk;refine⟨J4y h.1 hb,by have:=hb.1;have:=h.2.1;omega,fun j hj=>?_⟩
 have h1:=h.2.2 j hj;obtain⟨h2,h3⟩:=Qp hj;have:j≠k:=fun e=>hne (by rw[←e];exact h3)
 exact Tu (Va h.1 h2 (by omega))
theorem Q7g {p s:List Int}{i k:Nat}(h:Tm p s i k)(he:gI p k=gI s i)(hm:k+1<p.length):Xs p s (i+1) (k+1):=
 ⟨U3 h.1 h.2.1 he,hm,fun j hj _=>by
  rcases j with _|j
  ·omega
  ·have:=h.2.2 j hj;omega⟩
theorem Q3v {p s:List Int}{i k:Nat}(h:Tm p s i k)(he:gI p k=gI s i)(hm:k+1=p.length):Xs p s (i+1) (bl p p.length):=by
 have h0:0<p.length:=by omega
 have hs:=U3 h.1 h.2.1 he;rw[hm]at hs;have hb:=@Ro p p.length h0;exact⟨J4y hs hb,hb.1,fun j hj hlt=>Tu (Va hs hj hlt)⟩
theorem Q2v {p s:List Int}{i:Nat}(h:Tm p s i 0)(hne:gI p 0≠gI s i):Xs p s (i+1) 0:=
 ⟨Zc _ _ _,h.2.1,fun j hj _=>by
  rcases j with _|j
  ·omega
  ·have h1:=h.2.2 j hj
   obtain rfl:j=0:=by omega
   exact absurd (Qp hj).2 hne⟩
def Lj (p s:List Int)(i:Nat):List Int:=((List.range (i+1-p.length)).filter fun x=>decide (occ p s x)).map fun x:Nat=>(x:Int)
def Xx (p s:List Int):List Int:=Lj p s s.length
theorem J2x {p:List Int}(s:List Int)(h:0<p.length):Lj p s 0=[]:=by
 unfold Lj;rw[show 0+1-p.length=0 by omega]
 rfl
theorem Q2d {p s:List Int}{i k:Nat}(h:Tm p s i k)(he:gI p k=gI s i)(hm:k+1=p.length):Lj p s (i+1)=Lj p s i++[((i:Int)+1-p.length)]:=by
 have hs:=U3 h.1 h.2.1 he;rw[hm]at hs;obtain⟨h1,h2,h3⟩:=hs;have ho:occ p s (i+1-p.length):=fun j hj=>h3 j hj
 unfold Lj;rw[show i+1+1-p.length=(i+1-p.length)+1 by omega,List.range_succ,List.filter_append,List.map_append]
 congr 1
 simp[ho];omega
theorem J5f {p s:List Int}{i:Nat}(h0:0<p.length)(hno:¬suf p s (i+1) p.length):Lj p s (i+1)=Lj p s i:=by
 unfold Lj;rcases Av (i+1) p.length with h1|h1
 ·rw[show i+1+1-p.length=0 by omega,show i+1-p.length=0 by omega]
 ·rw[show i+1+1-p.length=(i+1-p.length)+1 by omega,List.range_succ,List.filter_append,List.map_append]
  have ho:¬occ p s (i+1-p.length):=fun ho=>hno ⟨h1,Aj _,fun j hj=>ho j hj⟩
  simp[ho]
theorem J7w {p s:List Int}{i k:Nat}(h:Tm p s i k)(hm:k+1<p.length):¬suf p s (i+1) p.length:=fun hs=>by
 have h1:p.length=(p.length-1)+1:=by omega
 rw[h1]at hs;have:=h.2.2 _ hs;omega
theorem J3a {p s:List Int}{i:Nat}(h:Tm p s i 0)(hne:gI p 0≠gI s i):¬suf p s (i+1) p.length:=fun hs=>by
 have h0:=h.2.1;have h1:p.length=(p.length-1)+1:=by omega
 rw[h1]at hs;have h2:=h.2.2 _ hs;have h3:p.length-1=0:=by omega
 rw[h3]at hs;exact hne (Qp hs).2
theorem Q5f {p s:List Int}{A B:Option Addr}{n m c d:Nat}{w:World}(hp:Bj w A n c p)(hs:Bj w B m d s)(hn:n≤4096)(h0:0<n)(hm:m≤4096):
 Calls Tryz.prog 178 #[.slice A n c,.slice B m d] w fun e w'=>∃C n' c',e=.returned (.tuple #[.slice C n' c',.int .i64 0])∧Ay w' w.heap.size C n' c' (Xx p s)∧Am w w':=by
 obtain⟨i0,hi,hz0,hz1,hz2⟩:=info_parts C8;have hpl:=A6 hp.len;have hsl:=A6 hs.len;have hn0:((n:Int)==0)=false:=by simp;omega
 obtain⟨pa,rfl,hpc⟩:=hp.at_ h0;go_enter Tryz.func178,Tryz.ntmps178
 go_wp2_with fail
 refine(Yt hp (by omega)).mono ?_
 rintro e w1 ⟨B1,rfl,hb1,he1⟩;obtain⟨ba,rfl,hbc⟩:=hb1.at_ h0;go_wp2_with fail
 go_loopw [8,10,41] (fun v k i wr=>∃(kn j q:Nat) (C:Option Addr) (c':Nat),kn<n∧j≤m∧q≤j+1∧k=.int .i64 kn∧i=.int .i64 j∧v=.slice C q c'∧Hid (Xs p s j kn)∧Ay wr w1.heap.size C q c' (Lj p s j)∧Am w1 wr) (fun _ _ i _=>m-(intOf i).toNat)
 case atStart=>exact⟨0,0,0,none,0,h0,by omega,by omega,rfl,rfl,rfl,J3j s (by rw[hpl.out];exact h0),by rw[J2x s (by rw[hpl.out];exact h0)];exact Ay.nil _ _,Am.refl _⟩
 case round=>
  obtain⟨kn,j,q,C,c',hkn,hj,hq,rfl,rfl,rfl,hmx,hown,he2⟩:=hrel;by_cases hlt:j<m
  ·obtain⟨sa,rfl,hsc⟩:=hs.at_ hlt
   have sj:=he2.cell (he1.cell (hsc j hlt));go_wp2_with fail
   go_loopw [10] (fun k w2=>∃kn:Nat,kn<n∧k=.int .i64 kn∧Hid (Tm p s j kn)∧w2=wr) (fun k _=>(intOf k).toNat)
   case atStart=>exact⟨kn,hkn,rfl,J4g hmx.out,rfl⟩
   case round=>
    clear hmx hkn;obtain⟨kn,hkn,rfl,hcan,rfl⟩:=hrel;have pk:=he2.cell (he1.cell (hpc kn hkn));by_cases hne:gI p kn=gI s j
    ·have e1:(gI p kn==gI s j)=true:=by simpa using hne
     have e2:(gI p kn !=gI s j)=false:=by simpa using hne
     have HN:=A6 hne;clear hne;by_cases hfull:kn+1=n
     ·have hf:((kn:Int)+1==n)=true:=by simp;omega
      have bk:w1.cell? (ba.add kn)=some (.int .i64 (bl p n)):=by
       rw[←Xj p (by rw[hpl.out];exact Aj _) h0,show n-1=kn by omega];exact hbc kn (by omega)
      have hblt:=@Vw p n h0;have hposl:Hid (Lj p s (j+1)=Lj p s j++[((j:Int)+1-(n:Int))]):=by
       have:=Q2d hcan.out HN.out (by rw[hpl.out];exact hfull)
       rw[hpl.out]at this;exact this
      have hmx:Hid (Xs p s (j+1) (bl p n)):=by
       have:=Q3v hcan.out HN.out (by rw[hpl.out];exact hfull)
       rw[hpl.out]at this;exact this
      have HF:=A6 hfull;have hfull':kn+1≤n:=by omega
      clear hfull;rcases Bm kn with hk0|hk0
      ·have N0:=trivial;exact K41
      ·have N1:=trivial;exact K41
     ·have hf:((kn:Int)+1==n)=false:=by simp;omega
      have hposl:Hid (Lj p s (j+1)=Lj p s j):=J5f (by rw[hpl.out];exact h0) (J7w hcan.out (by rw[hpl.out];omega))
      have hmx:Hid (Xs p s (j+1) (kn+1)):=Q7g hcan.out HN.out (by rw[hpl.out];omega)
      rcases Bm kn with hk0|hk0
      ·subst hk0
       rw[E5]at pk;clear hcan HN;go_wp2_with fail
       go_roundw
       case rel=>exact⟨1,j+1,q,C,c',by omega,by omega,by omega,by go_num,by go_num,rfl,hmx,by rw[hposl.out];exact hown,he2⟩
       case measure=>simp[intOf];omega
      ·clear hcan HN
       go_wp2_with fail
       go_roundw
       case rel=>exact⟨kn+1,j+1,q,C,c',by omega,by omega,by omega,by go_num,by go_num,rfl,hmx,by rw[hposl.out];exact hown,he2⟩
       case measure=>simp[intOf];omega
    ·have e1:(gI p kn==gI s j)=false:=by simpa using hne
     have e2:(gI p kn !=gI s j)=true:=by simpa using hne
     rcases Bm kn with hk0|hk0
     ·subst hk0
      rw[E5]at pk;have hf:((0:Int)==n)=false:=by simp;omega
      have hposl:Hid (Lj p s (j+1)=Lj p s j):=J5f (by rw[hpl.out];exact h0) (J3a hcan.out hne)
      have hmx:Hid (Xs p s (j+1) 0):=Q2v hcan.out hne;clear hne hcan;go_wp2_with fail
      go_roundw
      case rel=>exact⟨0,j+1,q,C,c',h0,by omega,by omega,by go_num,by go_num,rfl,hmx,by rw[hposl.out];exact hown,he2⟩
      case measure=>simp[intOf];omega
     ·have bk:wr.cell? (ba.add (kn-1))=some (.int .i64 (bl p kn)):=by
       rw[←Xj p (by rw[hpl.out];omega) hk0];exact he2.cell (hbc _ (by omega))
      have hblt:=@Vw p kn hk0;have hcan':Hid (Tm p s j (bl p kn)):=J9f hcan.out hk0 hne;clear hne hcan;go_wp2_with fail
      go_roundw
      case rel=>exact⟨bl p kn,by omega,rfl,hcan',trivial⟩
      case measure=>simp[intOf];omega
  ·obtain rfl:j=m:=by omega
   go_wp2_with fail
   go_ret2
   exact⟨C,q,c',rfl,by unfold Xx;rw[hsl.out];exact B8.lower hown he1.hsize,he1.trans he2⟩
structure Pt where
 first:Int
 reg:Int
 op:Int
 second:Int
 wait:Int
structure Cm where
 count:Int
 reg:Int
 op:Int
 verb:Int
 arg:Int
def Pt.zero:Pt:=⟨0,0,0,0,0⟩
def Cm.zero:Cm:=⟨0,0,0,0,0⟩
def Xt (c:Int):Bool:=if 97≤c∧c≤122 then true else decide (65≤c∧c≤90)
def Gq (c:Int):Bool:=c==100||c==99||c==121
def L6 (p:Pt):Bool:=decide (p.first<0)||decide (999<p.first)||decide (p.second<0)||decide (999<p.second)||(decide (0<p.second)&&p.op==0)
def Pr (p:Pt):Bool:=(p.reg !=0 && !Xt p.reg)||(p.op !=0 && !Gq p.op)
def D6 (p:Pt):Bool:=
 if p.wait==0||p.wait==102||p.wait==70||p.wait==116||p.wait==84 then true
 else if p.wait==114||p.wait==34 then p.op==0&&(p.wait==114||p.reg==0)
 else if p.wait==105||p.wait==97 then p.op !=0
 else false
def Fl (p:Pt):Bool:=!L6 p && !Pr p&&D6 p
def Kj (k:Int):Bool:=k==104||k==108||k==48||k==94||k==36||k==124||k==119||k==87||k==98||k==66||k==101||k==69||k==37||k==59||k==44
def Hj (k:Int):Bool:=k==102||k==70||k==116||k==84
def Ff (k:Int):Bool:=k==73||k==65||k==115||k==83||k==67||k==68||k==120||k==88||k==112||k==80||k==89||k==126||k==117||k==85||k==46||k==106||k==107||k==71||k==47||k==63||k==110||k==78||k==82
def Xv (p:Pt):Int:=if p.op==0 then p.first else p.second
def Hu (p:Pt)(k:Int):Bool:=(decide (49≤k)&&decide (k≤57))||(k==48&&decide (0<Xv p))
def Be (p:Pt)(k:Int):Int:=
 if Hu p k then 1 else if Gq k then 3 else if Kj k then 5 else if Hj k then 4
 else if k==105||k==97 then(if p.op !=0 then 8 else 6)
 else if p.op !=0 then 0
 else if k==34 then(if p.reg !=0 then 0 else 2)
 else if k==114 then 7
 else if Ff k then 6 else 0
def Fs (n k:Int):Int:=min 999 (10*n+k-48)
def Xr (p:Pt):Int:=if p.first==0 then p.second else if p.second==0 then p.first else min 999 (p.first*p.second)
def Mv (p:Pt)(v a:Int):Cm:=⟨Xr p,p.reg,p.op,v,a⟩
def Q9b (k:Int):Bool:=k==119||k==87||k==40||k==41||k==91||k==93||k==123||k==125||k==34||k==39||k==96
structure Tk where
 p:Pt
 c:Cm
 how:Int
def Dw:Tk:=⟨Pt.zero,Cm.zero,3⟩
def G6 (p:Pt)(k:Int):Tk:=
 if p.wait==34 then(if Xt k then⟨{ p with reg:=k,wait:=0 },Cm.zero,1⟩else Dw)
 else if p.wait==105||p.wait==97 then(if Q9b k then⟨Pt.zero,Mv p p.wait k,2⟩else Dw)
 else⟨Pt.zero,Mv p p.wait k,2⟩
def Co (p:Pt)(k:Int):Tk:=
 if k<32∨k=127 then Dw
 else if p.wait≠0 then G6 p k
 else if Be p k=1 then(if p.op≠0 then⟨{ p with second:=Fs p.second k },Cm.zero,1⟩else⟨{ p with first:=Fs p.first k },Cm.zero,1⟩)
 else if Be p k=2∨Be p k=4∨Be p k=7∨Be p k=8 then⟨{ p with wait:=k },Cm.zero,1⟩
 else if Be p k=3 then(if p.op=0 then⟨{ p with op:=k },Cm.zero,1⟩else if p.op≠k then Dw else⟨Pt.zero,Mv p k 0,2⟩)
 else if Be p k=5∨Be p k=6 then⟨Pt.zero,Mv p k 0,2⟩
 else Dw
theorem J3l {f r o s k:Int}(h:Be ⟨f,r,o,s,0⟩ k=2∨Be ⟨f,r,o,s,0⟩ k=4∨Be ⟨f,r,o,s,0⟩ k=7∨Be ⟨f,r,o,s,0⟩ k=8):D6 ⟨f,r,o,s,k⟩=true:=by
 unfold Be at h;by_cases a1:Hu ⟨f,r,o,s,0⟩ k=true
 ·simp[a1]at h
 by_cases a2:Gq k=true
 ·simp[a1,a2]at h
 by_cases a3:Kj k=true
 ·simp[a1,a2,a3]at h
 by_cases a4:Hj k=true
 ·unfold D6
  simp[Hj]at a4;rw[if_pos (by simp;omega)]
 by_cases a5:k=105∨k=97
 ·have a5':(k==105||k==97)=true:=by simpa using a5
  by_cases ho:o=0
  ·subst ho;simp[a1,a2,a3,a4,a5']at h
  ·unfold D6
   rw[if_neg (by simp;omega),if_neg (by simp;omega),if_pos (by simpa using a5)]
   simpa using ho
 ·have a5':(k==105||k==97)=false:=by simpa using a5
  by_cases ho:o=0
  ·subst ho
   by_cases a6:k=34
   ·subst a6
    by_cases hr:r=0
    ·subst hr;rfl
    ·simp[a1,a2,a3,a4,hr]at h
   ·by_cases a7:k=114
    ·subst a7;rfl
    ·have a6':(k==34)=false:=by simpa using a6
     have a7':(k==114)=false:=by simpa using a7
     simp only[a1,a2,a3,a4,a5',a6',a7',if_false,Bool.false_eq_true]at h;exfalso
     revert h
     by_cases a8:Ff k=true<;>simp[a8]
  ·simp[a1,a2,a3,a4,a5',ho]at h
theorem Kb:Fl Pt.zero=true:=by decide
theorem J2h {p:Pt}{k:Int}(h:Fl p=true):Fl (Co p k).p=true∧((Co p k).how=1∨(Co p k).how=2∨(Co p k).how=3)∧((Co p k).how≠1→(Co p k).p=Pt.zero)∧
 ((Co p k).how=1→(Co p k).p=p→p.first=999∨p.second=999):=by
 obtain⟨f,r,o,s,wt⟩:=p;unfold Co;split
 ·exact⟨Kb,by simp[Dw],fun _=>rfl,by simp[Dw]⟩
 rename_i hk;split
 ·rename_i hw
  unfold G6;split
  ·rename_i h34
   split
   ·rename_i hl
    simp only at h34 hl hw;have h34':wt=34:=by simpa using h34
    subst h34';refine⟨?_,by simp,by simp,?_⟩
    ·simp only[Fl,L6,Pr,D6]at h ⊢
     simp at h ⊢;obtain⟨⟨h1,h2,h3⟩,h4⟩:=h;exact⟨h1,.inr hl,h3⟩
    ·intro _ e
     injection e with _ _ _ _ e;omega
   ·exact⟨Kb,by simp[Dw],fun _=>rfl,by simp[Dw]⟩
  ·split
   ·exact I64
   ·exact⟨Kb,by simp,fun _=>rfl,by simp⟩
 rename_i hw;simp only[ne_eq,Decidable.not_not]at hw;subst hw;split
 ·rename_i hd
  have hdb:Hu ⟨f,r,o,s,0⟩ k=true:=by
   unfold Be at hd;split at hd
   ·assumption
   ·exfalso;revert hd;(repeat' split)<;>decide
  have hb:0≤f∧f≤999∧0≤s∧s≤999:=by
   simp[Fl,L6]at h;omega
  split
  ·rename_i ho
   simp only[ne_eq]at ho;have hcs:Xv ⟨f,r,o,s,0⟩=s:=by unfold Xv;simp[ho]
   simp[Hu,hcs]at hdb;have hc:0≤Fs s k∧Fs s k≤999∧(Fs s k=s→s=999):=by unfold Fs;omega
   refine⟨?_,by simp,by simp,?_⟩
   ·simp[Fl,L6,Pr,D6]at h ⊢
    simp[ho]at h ⊢;refine⟨?_,h.2⟩
    omega
   ·intro _ e
    injection e with _ _ _ e _;exact .inr (hc.2.2 e)
  ·rename_i ho
   simp only[ne_eq,Decidable.not_not]at ho;subst ho;have hcs:Xv ⟨f,r,0,s,0⟩=f:=by unfold Xv;simp
   simp[Hu,hcs]at hdb;have hc:0≤Fs f k∧Fs f k≤999∧(Fs f k=f→f=999):=by unfold Fs;omega
   refine⟨?_,by simp,by simp,?_⟩
   ·simp[Fl,L6,Pr,D6]at h ⊢
    refine⟨?_,h.2⟩
    omega
   ·intro _ e
    injection e with e _ _ _ _;exact .inl (hc.2.2 e)
 rename_i hd;split
 ·rename_i hq
  have hk0:k≠0:=by omega
  have hwk:=J3l (f:=f) (s:=s) hq;refine⟨?_,by simp,by simp,?_⟩
  ·simp only[Fl,L6,Pr]at h ⊢
   rw[hwk];simp at h ⊢;exact h.1
  ·intro _ e
   injection e with _ _ _ _ e;exact absurd e hk0
 rename_i hq;split
 ·rename_i ho3
  have hob:Gq k=true:=by
   unfold Be at ho3;split at ho3
   ·exact absurd ho3 (by decide)
   ·split at ho3
    ·assumption
    ·exfalso;revert ho3;(repeat' split)<;>decide
  split
  ·rename_i ho
   simp only at ho;subst ho;have hk0:k≠0:=by omega
   refine⟨?_,by simp,by simp,?_⟩
   ·simp[Fl,L6,Pr,D6]at h ⊢
    simp[hob,hk0];exact⟨h.1.1,h.2⟩
   ·intro _ e
    injection e with _ _ e _ _;exact absurd e hk0
  ·split
   ·exact⟨Kb,by simp[Dw],fun _=>rfl,by simp[Dw]⟩
   ·exact⟨Kb,by simp,fun _=>rfl,by simp⟩
 exact I64
def Sh (N:List Nat)(w w':World):Prop:=w.heap.size≤w'.heap.size∧∀k,k<w.heap.size→k∉N→w'.heap[k]? = w.heap[k]?
section
variable {N:List Nat} {w w' w'':World} {base e z n c:Nat} {A:Option Addr} {xs:List Value}
theorem Am.eqv (h:Am w w')(N:List Nat):Sh N w w':=⟨h.hsize,fun k hk _=>Below.block h k hk⟩
theorem Sh.refl (N:List Nat)(w:World):Sh N w w:=⟨Nat.le_refl _,fun _ _ _=>rfl⟩
theorem Sh.trans (h:Sh N w w')(k:Sh N w' w''):Sh N w w'':=⟨Nat.le_trans h.1 k.1,fun j hj hn=>(k.2 j (Nat.lt_of_lt_of_le hj h.1) hn).trans (h.2 j hj hn)⟩
theorem Sh.setCell (w:World)(p:Addr)(u:Value)(hp:p.block∈N):Sh N w (w.setCell p u):=by
 refine⟨by simp,fun k _ hn=>?_⟩
 unfold World.setCell;rw[Array.getElem?_modify,if_neg (fun e=>hn (by rw[←e];exact hp))]
theorem Sh.grown {row:Option Nat}(hg:w.grownBy w' row)(hr:∀k,row=some k→k∈N):Sh N w w':=
 ⟨hg.size,fun k hk hn=>hg.block k hk (fun e=>hn (hr k e.symm))⟩
theorem B8.eqv (h:B8 w base e z A n c xs)(he:Sh N w w')(hb:∀k,(Ak A n c).ownBlock=some k→k∉N):B8 w' base e z A n c xs:=by
 obtain⟨h1,h2⟩:=h;refine⟨h1,?_⟩
 rcases h2 with h2|⟨g,cap,cur,hv,hbb,hg,r⟩
 ·exact .inl h2
 ·refine .inr ⟨g,cap,cur,hv,hbb,?_,r⟩
  injection hv with hA _ _;subst hA;rw[he.2 g (Array.getElem?_eq_some_iff.1 hg).1 (hb g rfl)];exact hg
theorem Ap.eqv {g t:Nat}{cs:Array Value}(h:Ap w g t cs)(he:Sh N w w')(hg:g∉N):Ap w' g t cs:=(he.2 g h.lt hg).trans h
theorem B8.unlike {base' e' z' n' c':Nat}{A':Option Addr}{xs':List Value}(h:B8 w base e z A n c xs)(h':B8 w base' e' z' A' n' c' xs')(hne:e≠e')(k:Nat)(hk:(Ak A n c).ownBlock=some k):(Ak A' n' c').ownBlock≠some k:=by
 intro hk';rcases h.2 with⟨hv,_⟩|⟨g,cap,cur,hv,_,hg,_⟩
 ·injection hv with hA _ _
  subst hA;cases hk
 rcases h'.2 with⟨hv',_⟩|⟨g',cap',cur',hv',_,hg',_⟩
 ·injection hv' with hA _ _
  subst hA;cases hk'
 injection hv with hA _ _;subst hA;injection hv' with hA _ _;subst hA;injection hk with hk;injection hk' with hk';have:g=g':=by
  have h1:g=k:=hk;have h2:g'=k:=hk';omega
 subst this;rw[hg]at hg';injection hg' with hg';injection hg' with _ h1;exact hne h1
end
