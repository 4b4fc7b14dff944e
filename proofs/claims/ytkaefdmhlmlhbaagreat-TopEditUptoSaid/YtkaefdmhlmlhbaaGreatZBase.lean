/-
  Part ZBase.
-/
import Derived.Test.YtkaefdmhlmlhbaaGreatZFb
import Derived.Test.YtkaefdmhlmlhbaaGreatRows
import Derived.WalkKit
import Derived.ProofKit
import Derived.OpenShut
import Derived.WalkLawsBesides
import Derived.WalkSpells
import Derived.Below
import Derived.Laws.OwnMore
import Derived.Deep.AppendLies
import Derived.Deep.Draws
import Derived.Laws.Rows
import Derived.Maps.AppendAt
import Derived.RegionTactic
import Derived.OwnWalk
import Derived.ChangeSame
import Derived.Deep.QuietTactic
import Derived.BigQuiet
import Derived.Lib.Hide
import Derived.Deep.OwnRows
set_option maxRecDepth 100000
set_option maxHeartbeats 16000000
set_option linter.unusedVariables false
set_option linter.unusedSimpArgs false
namespace Go.Proofs.YtkaefdmhlmlhbaaGreat
open Go.RowKit
open _root_.List renaming getElem?_take→Nw,take_of_length_le→Bi,take_succ_eq_append_getElem→Hf
open _root_.Nat renaming eq_zero_or_pos→Bo,le_refl→Aj,le_trans→Ar,lt_or_ge→Ay,zero_le→Aw
open Value renaming int→At,slice→Ak
open Region renaming wanted→Bs
section
variable {l p s m l':List Int}{w x w':World}{A B:Option Addr}{Q:Exit→Act→World→Prop}{i k n c j:Nat}{K:Act→World→Prop}{P:Program}{ops:Array Oper}{v:Value}{args:Array Value}{a:Act}{o:Oper}{E:Prop}
theorem A6 {p:Prop}(h:p):Go.RowKit.Hid p:=h
open Go.RowKit Go.WideShapes Go.ChangeShapes
def An (w w':World):Prop:=Below w.heap.size w w'
theorem An.refl (w:World):An w w:=Below.refl _ _
theorem An.trans {a b c:World}(h:An a b)(k:An b c):An a c:=Below.trans h (Below.mono k h.size)
theorem An.drew (w:World):An w w.drew:=(Below.refl _ _).drew
theorem An.drewN (w:World)(n:Nat):An w (w.drewN n):=⟨rfl,rfl,rfl,Aj _,fun _ _=>rfl⟩
theorem An.alloc (w:World)(o:Obj):An w (w.alloc o):=(Below.refl _ _).alloc (Aj _) o
theorem An.setCell (h:An w x){p:Addr}(hp:w.heap.size≤p.block)(u:Value):An w (x.setCell p u):=Below.setCell h hp u
theorem An.to_drewN (h:An w x)(n:Nat):An w (x.drewN n):=h.trans (An.drewN _ _)
theorem An.to_drew (h:An w x):An w x.drew:=h.trans (An.drew _)
theorem An.to_alloc (h:An w x)(o:Obj):An w (x.alloc o):=h.trans (An.alloc _ _)
theorem An.hsize (h:An w w'):w.heap.size≤w'.heap.size:=h.size
theorem An.cell (h:An w w'){p:Addr}(hc:w.cell? p=some v):w'.cell? p=some v:=
 (Below.cell h (World.block_lt_of_cell? w p hc)).trans hc
theorem Q0 (w:World)(a b:Nat):(w.drewN a).drewN b=w.drewN (a+b):=World.drewN_drewN w a b
theorem eF {f:FuncId}(h:Calls P f args (w.drewN n) fun e w'=>e=.returned v∧∃k,w'=(w.drewN n).drewN k):
 Calls P f args (w.drewN n) fun e w''=>e=.returned v∧∃m,w''=w.drewN m:=
 h.mono fun _ _ ⟨he,k,hk⟩=>⟨he,n+k,by rw[hk];exact Q0 _ _ _⟩
theorem Gf {a b:Bool}(h:a=b):Ending.returned (.bool a)=.returned (.bool b):=by rw[h]
theorem Jb {k:IntKind}{a b:Int}(h:a=b):Ending.returned (.int k a)=.returned (.int k b):=by rw[h]
structure Qb (w0:World) where
 w:World
 h:An w0 w
theorem Q3 {id:Nat}{l:List Oper}(hm:P.follows .mixedOrders=true)(hB:Region.lexB .any l.toArray=true)
 (h:wpQuiet P l.toArray (fun w'=>∃i:Qb w,w'=i.w) (fun a'=>∀w',(∃i:Qb w,w'=i.w)→Q .normal a' w') l a):(Code.region id l.toArray true).wp P Q a w:=
 wp_region_quiet (C:=fun w'=>∃i:Qb w,w'=i.w) hm hB ⟨⟨w.drew,An.drew w⟩,rfl⟩ (by simpa using h)
theorem Rs {f:FuncId}{i:Qb w}(h:Calls P f args i.w fun e w'=>e=.returned v∧An i.w w'):
 Calls P f args i.w fun e w''=>e=.returned v∧∃j:Qb w,w''=j.w:=
 h.mono fun _ w'' ⟨he,hx⟩=>⟨he,⟨w'',i.h.trans hx⟩,rfl⟩
theorem Qb.cell {w0:World}(i:Qb w0){p:Addr}(h:w0.cell? p=some v):i.w.cell? p=some v:=i.h.cell h
theorem Fr (a:Addr)(i j:Nat):(a.add i).add j=a.add (i+j):=by
 unfold Addr.add;by_cases hi:i=0<;>by_cases hj:j=0<;>simp[hi,hj,Nat.add_assoc]
theorem Du (a:Addr):a.add 0=a:=by unfold Addr.add;simp
def Rd (w:World)(z:Nat)(A:Option Addr)(n c:Nat)(xs:List Value):Prop:=
 xs.length=n*z∧n≤c∧c≤maxLen∧(0<n→∃ad,A=some ad∧∀j u,xs[j]? = some u→w.cell? (ad.add j)=some u)
section
variable {w w':World} {z n c:Nat} {A:Option Addr} {xs:List Value}
theorem Rd.len (h:Rd w z A n c xs):xs.length=n*z:=h.1
theorem Rd.ncap (h:Rd w z A n c xs):n≤c:=h.2.1
theorem Rd.nmax (h:Rd w z A n c xs):c≤maxLen:=h.2.2.1
theorem Rd.ext (h:Rd w z A n c xs)(he:An w w'):Rd w' z A n c xs:=by
 obtain⟨h1,h2,h3,h4⟩:=h;refine⟨h1,h2,h3,fun hn=>?_⟩
 obtain⟨ad,e,hc⟩:=h4 hn;exact⟨ad,e,fun j u hu=>he.cell (hc j u hu)⟩
theorem Rd.keep (h:Rd w z A n c xs)(hk:∀p u,w.cell? p=some u→w'.cell? p=some u):Rd w' z A n c xs:=by
 obtain⟨h1,h2,h3,h4⟩:=h;refine⟨h1,h2,h3,fun hn=>?_⟩
 obtain⟨ad,e,hc⟩:=h4 hn;exact⟨ad,e,fun j u hu=>hk _ _ (hc j u hu)⟩
theorem Rd.at_ (h:Rd w z A n c xs){k:Nat}(hk:k<n):∃ad,A=some ad∧∀j u,xs[j]? = some u→w.cell? (ad.add j)=some u:=h.2.2.2 (by omega)
theorem Rd.none_ (w:World)(z:Nat):Rd w z none 0 0 []:=⟨by simp,Aj _,Nat.zero_le _,fun h=>absurd h (by omega)⟩
theorem Rd.cut (h:Rd w z A n c xs){k m:Nat}(hk:k≤m)(hm:m≤n):
 Rd w z (if c=k then A else A.map (·.add (k*z))) (m-k) (c-k) ((xs.drop (k*z)).take ((m-k)*z)):=by
 obtain⟨h1,h2,h3,h4⟩:=h;refine⟨?_,by omega,by omega,fun hn=>?_⟩
 ·rw[List.length_take,List.length_drop,h1,←Nat.sub_mul]
  exact Nat.min_eq_left (Nat.mul_le_mul_right _ (by omega))
 ·obtain⟨ad,rfl,hc⟩:=h4 (by omega)
  rw[if_neg (by omega)]
  refine⟨ad.add (k*z),rfl,fun j u hu=>?_⟩
  rw[Fr];refine hc _ u ?_
  rw[Nw]at hu;split at hu
  ·rw[←hu,List.getElem?_drop]
  ·cases hu
end
def gI (l:List Int)(k:Nat):Int:=l[k]?.getD 0
def Bl (w:World)(A:Option Addr)(n c:Nat)(l:List Int):Prop:=Rd w 1 A n c (l.map (At .i64))
theorem Bl.len (h:Bl w A n c l):l.length=n:=by
 have:=Rd.len h;simpa using this
theorem Bl.ext (h:Bl w A n c l)(he:An w w'):Bl w' A n c l:=Rd.ext h he
theorem Bl.at_ (h:Bl w A n c l)(hk:k<n):
 ∃ad,A=some ad∧∀j,j<n→w.cell? (ad.add j)=some (.int .i64 (gI l j)):=by
 obtain⟨ad,e,hc⟩:=Rd.at_ h hk;refine⟨ad,e,fun j hj=>hc j _ ?_⟩
 have hl:=h.len;simp[gI,show j<l.length by omega]
theorem Bl.cut (h:Bl w A n c l){k m:Nat}(hk:k≤m)(hm:m≤n):
 Bl w (if c=k then A else A.map (·.add k)) (m-k) (c-k) ((l.drop k).take (m-k)):=by
 have:=Rd.cut h hk hm;unfold Bl;rw[List.map_take,List.map_drop]
 simpa using this
theorem Bl.front (h:Bl w A n c l)(hk:k≤n):Bl w A k c (l.take k):=by
 have h1:=h.len;have h2:=Rd.ncap h;refine⟨by simp;omega,by omega,Rd.nmax h,fun hn=>?_⟩
 obtain⟨ad,e,hc⟩:=Rd.at_ h (k:=0) (by omega)
 refine⟨ad,e,fun j u hu=>hc j u ?_⟩
 rw[List.map_take,Nw]at hu;split at hu
 ·exact hu
 ·cases hu
theorem Bl.back {a:Addr}(h:Bl w (some a) n c l)(hk:k≤n):Bl w (some (a.add k)) (n-k) (c-k) (l.drop k):=by
 have h1:=h.len;have h2:=Rd.ncap h;have h3:=Rd.nmax h;refine⟨by simp;omega,by omega,by omega,fun hn=>⟨_,rfl,fun j u hu=>?_⟩⟩
 obtain⟨ad,e,hc⟩:=Rd.at_ h (k:=0) (by omega)
 injection e with e;subst e;rw[Fr];refine hc _ u ?_
 rw[←hu,List.map_drop,List.getElem?_drop]
theorem Bl.none_ (w:World):Bl w none 0 0 []:=Rd.none_ w 1
theorem Bl.ncap (h:Bl w A n c l):n≤c:=Rd.ncap h
theorem Bl.nmax (h:Bl w A n c l):c≤maxLen:=Rd.nmax h
theorem Bl.one (_:Bl w A n c l):∀u∈l.map (At .i64),u.oneCell'=true:=ints_oneCell _ _
def Bd (w:World)(base e z:Nat)(A:Option Addr)(n c:Nat)(xs:List Value):Prop:=w.ownsRow base e z (.slice A n c) n xs
def Av (w:World)(base:Nat)(A:Option Addr)(n c:Nat)(l:List Int):Prop:=Bd w base 3 1 A n c (l.map (At .i64))
section
variable {w w':World} {base e z n c:Nat} {A:Option Addr} {xs:List Value} {l:List Int}
theorem Bd.rd (h:Bd w base e z A n c xs):Rd w z A n c xs:=by
 obtain⟨h1,h2⟩:=h;rcases h2 with⟨hv,rfl⟩|⟨g,cap,cur,hv,hb,hg,hn,hcap,hcur,htake⟩
 ·injection hv with hA _ hc
  subst hA;subst hc;obtain rfl:xs=[]:=List.eq_nil_of_length_eq_zero (by simpa using h1)
  exact Rd.none_ w z
 ·injection hv with hA _ hc
  subst hA;subst hc;refine⟨h1,hn,hcap,fun _=>⟨_,rfl,?_⟩⟩
  have hown:w.ownsRow base e z (.slice (some ⟨g,0,none⟩) n c) n xs:=⟨h1,.inr ⟨g,c,cur,rfl,hb,hg,hn,hcap,hcur,htake⟩⟩;exact hown.cells (g:=g) rfl
theorem Av.ints (h:Av w base A n c l):Bl w A n c l:=Bd.rd h
theorem Bd.nil (w:World)(base e z:Nat):Bd w base e z none 0 0 []:=World.ownsRow_nil w base e z
theorem Av.nil (w:World)(base:Nat):Av w base none 0 0 []:=World.ownsRow_nil w base _ _
theorem Bd.ext (h:Bd w base e z A n c xs)(he:An w w'):Bd w' base e z A n c xs:=by
 obtain⟨h1,h2⟩:=h;refine⟨h1,?_⟩
 rcases h2 with h2|⟨g,cap,cur,hv,hb,hg,r⟩
 ·exact .inl h2
 ·exact .inr ⟨g,cap,cur,hv,hb,(Below.block he g (Array.getElem?_eq_some_iff.1 hg).1).trans hg,r⟩
theorem Av.ext (h:Av w base A n c l)(he:An w w'):Av w' base A n c l:=Bd.ext h he
theorem Bd.lower {base':Nat}(h:Bd w base e z A n c xs)(hb:base'≤base):Bd w base' e z A n c xs:=by
 obtain⟨h1,h2⟩:=h;refine⟨h1,?_⟩
 rcases h2 with h2|⟨g,cap,cur,hv,hbb,r⟩
 ·exact .inl h2
 ·exact .inr ⟨g,cap,cur,hv,Ar hb hbb,r⟩
theorem Bd.len (h:Bd w base e z A n c xs):xs.length=n*z:=h.1
end
section
variable {w w':World} {base e z n c:Nat} {A:Option Addr} {xs:List Value}
theorem Bd.pop {k:Nat}(h:Bd w base e 1 A n c xs)(hk:k≤n)(hn:0<n):Bd w base e 1 A k c (xs.take k):=by
 obtain⟨h1,h2⟩:=h;rcases h2 with⟨_,h0⟩|⟨g,cap,cur,hv,hb,hg,hnc,hcap,hcur,ht⟩
 ·omega
 ·injection hv with hA _ hc
  subst hA;subst hc;refine⟨by simp;omega,.inr ⟨g,c,cur,rfl,hb,hg,by omega,hcap,hcur,?_⟩⟩
  rw[←ht,List.take_take]
  congr 1
  omega
theorem Bd.kept (h:Bd w base e z A n c xs){row:Option Nat}(hg:w.grownBy w' row)(hne:(Ak A n c).ownBlock=none∨(Ak A n c).ownBlock≠row):Bd w' base e z A n c xs:=
 World.ownsRow.kept h hg hne
theorem Bd.setCell (h:Bd w base e z A n c xs){p:Addr}(hp:p.block<base)(u:Value):Bd (w.setCell p u) base e z A n c xs:=ownsRow_setCell_below h hp u
theorem Bd.blk (h:Bd w base e z A n c xs):∀g,(Ak A n c).ownBlock=some g→base≤g∧g<w.heap.size:=World.ownsRow.lt h
end
theorem An.grown {w0 w w':World}{base e z n:Nat}{xs:List Value}(h:An w0 w)(hg:w.grownBy w' v.ownBlock)(hown:w.ownsRow base e z v n xs)(hb:w0.heap.size≤base):An w0 w':=
 Below.grown h hg h.size (fun k hk=>Ar hb (hown.lt k hk).1)
def Aq (w:World)(g:Nat)(t:TypeId)(cs:Array Value):Prop:=w.heap[g]? = some (.cells cs t (0,0))
section
variable {w w':World} {g:Nat} {t:TypeId} {cs:Array Value}
theorem Aq.lt (h:Aq w g t cs):g<w.heap.size:=by
 rcases Nat.lt_or_ge g w.heap.size with hlt|hge
 ·exact hlt
 ·unfold Aq at h;rw[Array.getElem?_eq_none hge]at h;cases h
theorem Aq.cell (h:Aq w g t cs)(i:Nat):w.cell? ⟨g,i,none⟩=cs[i]? := cell_of_row w g i cs t (0,0) h
theorem Aq.frozen (h:Aq w g t cs)(i:Nat):w.frozen? ⟨g,i,none⟩=false:=by
 unfold Aq at h;simp[World.frozen?,h]
theorem Aq.new (w:World)(t:TypeId)(cs:Array Value):Aq (w.alloc (.cells cs t)) w.heap.size t cs:=heap_alloc_new w _
theorem Aq.ext (h:Aq w g t cs)(he:An w w'):Aq w' g t cs:=(Below.block he g h.lt).trans h
theorem Aq.grown (h:Aq w g t cs){row:Option Nat}(hb:w.grownBy w' row)(hg:some g≠row):Aq w' g t cs:=(hb.block g h.lt hg).trans h
theorem Aq.drewN (h:Aq w g t cs)(n:Nat):Aq (w.drewN n) g t cs:=h
theorem Aq.set_ (h:Aq w g t cs)(i:Nat)(u:Value):Aq (w.setCell ⟨g,i,none⟩ u) g t (cs.setIfInBounds i u):=by
 unfold Aq at h ⊢;simp[World.setCell,Array.getElem?_modify,h]
end
theorem Aq.ints {g:Nat}{t:TypeId}(h:Aq w g t (l.map (At .i64)).toArray)(hn:n=l.length)(hm:n≤maxLen):
 Bl w (some ⟨g,0,none⟩) n n l:=by
 subst hn;refine⟨by simp,Aj _,hm,fun _=>⟨_,rfl,fun j u hu=>?_⟩⟩
 have:(⟨g,0,none⟩:Addr).add j=⟨g,j,none⟩:=by simp[Addr.add_lit]
 rw[this,h.cell j]
 simpa using hu
theorem Vf {g t:Nat}(h:Aq w g t (l.map (At .i64)).toArray)(hk:k<l.length):w.cell? ⟨g,k,none⟩=some (.int .i64 (gI l k)):=by
 rw[h.cell k];simp[gI,hk]
theorem Sy {g t:Nat}(h:Aq w g t (l.map (At .i64)).toArray)(k:Nat)(u:Int):Aq (w.setCell ⟨g,k,none⟩ (.int .i64 u)) g t ((l.set k u).map (At .i64)).toArray:=by
 have:=h.set_ k (.int .i64 u);rw[List.map_set,←List.setIfInBounds_toArray];exact this
theorem Ss (n:Nat):madeCells (At .i64 0).cells n=((List.replicate n (0:Int)).map (At .i64)).toArray:=by
 apply Array.ext
 ·simp[size_madeCells]
 ·intro i h1 h2
  simp[madeCells,Value.cells,Nat.mod_one]
section
variable {P:Program} {ops:Array Oper} {rest:List Oper} {o:Oper} {a:Act} {Q:Exit→Act→World→Prop}
theorem Ep {w:World}(hgd:o.guard=none)(s x:Operand)(t:TypeId)
 (ho:o.op=.call { callee:=.builtin .append,args:=#[s,x],argTypes:=#[t,t] })
 (w0:World) (base e:Nat) (i:TypeInfo) (zv:Value) (z bytes:Nat) (ht:P.underlying t=some (.slice e)) (hi:P.info? e=some i) (hz:i.zero=some zv)
 (hsize:i.size=z) (hby:i.bytes=bytes) (hzs:zv.cells.size=z) (hsz:0<z)
 (A:Option Addr) (n c:Nat) (xs:List Value) (hs:a.eval s=.slice A n c) (hown:Bd w base e z A n c xs)
 (B:Option Addr) (m d:Nat) (news:List Value) (hx:a.eval x=.slice B m d) (hr:Rd w z B m d news) (h1:∀u∈news,u.oneCell'=true)
 (h63:n+m≤maxLen) (hbytes:(n+m)*bytes≤140737488355328) (he:An w0 w) (hb:w0.heap.size≤base) (hbase:base≤w.heap.size)
 (h:∀A' c' w',Bd w' base e z A' (n+m) c' (xs++news)→w.grownBy w' (Ak A n c).ownBlock→((Ak A' (n+m) c').ownBlock=(Ak A n c).ownBlock∨(Ak A' (n+m) c').ownBlock=some w.heap.size)→An w0 w'→
  wpList P ops Q rest (a.put o.dst (.slice A' (n+m) c')) w'):wpList P ops Q (o::rest) a w:=by
 have N1:=trivial;exact K16
theorem S4 {w w':World}(hgd:o.guard=none)(s x:Operand)(t t':TypeId)
 (ho:o.op=.call { callee:=.builtin .append,args:=#[s,x],argTypes:=#[t,t'] }) (u v r:Value) (hs:a.eval s=u) (hx:a.eval x=v)
 (hrun:(Builtin.append_ #[t,t'] o.type #[u,v]).run P w=.ok r w') (h:wpList P ops Q rest (a.put o.dst r) w'):wpList P ops Q (o::rest) a w:=by
 refine wpList_plain hgd fun K hK=>?_
 unfold Oper.wp execOp;simp only[ho,resolve,invoke,builtin,Sem.run_bind,Sem.run_pure,Result.andThen_ok,List.map_toArray,List.map_cons,List.map_nil,hs,hx,hrun];exact hK _ _ h
theorem C6 {w1:World}(hgd:o.guard=none)(s x:Operand)(t:TypeId)
 (ho:o.op=.call { callee:=.builtin .append,args:=#[s,x],argTypes:=#[t,t] })
 (w0:World) (base e:Nat) (i:TypeInfo) (zv:Value) (z bytes:Nat) (ht:P.underlying t=some (.slice e)) (hi:P.info? e=some i) (hz:i.zero=some zv)
 (hsize:i.size=z) (hby:i.bytes=bytes) (hzs:zv.cells.size=z) (hsz:0<z)
 (A:Option Addr) (n c:Nat) (xs:List Value) (hs:a.eval s=.slice A n c) (hown:Bd w1 base e z A n c xs)
 (us:Array Value) (hu:us.size=z) (h1:∀u∈us.toList,u.oneCell'=true) (hx:a.eval x=.slice (some ⟨w1.heap.size,0,none⟩) 1 1)
 (h63:n+1≤maxLen) (hbytes:(n+1)*bytes≤140737488355328) (he:An w0 w1) (hb:w0.heap.size≤base) (hbase:base≤w1.heap.size)
 (h:∀A' c' w',Bd w' base e z A' (n+1) c' (xs++us.toList)→w1.grownBy w' (Ak A n c).ownBlock→((Ak A' (n+1) c').ownBlock=(Ak A n c).ownBlock∨∃g,w1.heap.size≤g∧(Ak A' (n+1) c').ownBlock=some g)→An w0 w'→
  wpList P ops Q rest (a.put o.dst (.slice A' (n+1) c')) w'):wpList P ops Q (o::rest) a (w1.alloc (.cells us e)):=by
 have N0:=trivial;exact K44
end
theorem Cb:(Tryz.prog.info? 3).map (fun i=>(i.zero,i.size,i.bytes))=some (some (.int .i64 0),1,8):=by kernel_rfl
def Zm (l m:List Int):Bool:=decide (l=m)
theorem Va:Zm l m=true↔l=m:=by simp[Zm]
theorem Y4:Zm l m=false↔l≠m:=by simp[Zm]
theorem Z8 {n k:Nat}(hl:l.length=n)(hm:m.length=n)(hk:k<n)(h:l.take k=m.take k)(he:gI l k=gI m k):l.take (k+1)=m.take (k+1):=by
 have h1:k<l.length:=by omega
 have h2:k<m.length:=by omega
 rw[Hf h1,Hf h2,h];simp[gI,h1,h2]at he;rw[he]
theorem bX (hl:l.length=n)(hm:m.length=n)(h:l.take n=m.take n):l=m:=by
 rwa[Bi (by omega),Bi (by omega)]at h
theorem Rj (hgd:o.guard=none)(s x:Operand)(t:TypeId)
 (ho:o.op=.call { callee:=.builtin .append,args:=#[s,x],argTypes:=#[t,t] })
 (w0:World) (base e:Nat) (i:TypeInfo) (zv:Value) (z bytes:Nat) (ht:P.underlying t=some (.slice e)) (hi:P.info? e=some i) (hz:i.zero=some zv)
 (hsize:i.size=z) (hby:i.bytes=bytes) (hzs:zv.cells.size=z) (hsz:0<z)
 (A:Option Addr) (n c:Nat) (xs:List Value) (hs:a.eval s=.slice A n c) (hown:Bd w base e z A n c xs)
 (B:Option Addr) (m d:Nat) (news:List Value) (hx:a.eval x=.slice B m d) (hr:Rd w z B m d news) (h1:∀u∈news,u.oneCell'=true)
 (h63:n+m≤maxLen) (hbytes:(n+m)*bytes≤140737488355328) (he:An w0 w) (hb:w0.heap.size≤base) (hbase:base≤w.heap.size)
 (h:∀A' c' w',Bd w' base e z A' (n+m) c' (xs++news)→w.grownBy w' (Ak A n c).ownBlock→((Ak A' (n+m) c').ownBlock=(Ak A n c).ownBlock∨(Ak A' (n+m) c').ownBlock=some w.heap.size)→An w0 w'→
  K (a.put o.dst (.slice A' (n+m) c')) w'):if Bs o (yielded ops a.tmps)=true then Oper.wp P o a w K Q else E:=by
 have N0:=trivial;exact K16
theorem Jq (hgd:o.guard=none)
 (f:FuncId) (args:Array Value) (hrun:(execOp a.eval o).run P w=.ok (.enter f args) w) (R:Value→World→Prop)
 (hc:Calls P f args w fun e w'=>∃v,e=.returned v∧R v w') (h:∀v w',R v w'→K (a.put o.dst v) w'):if Bs o (yielded ops a.tmps)=true then Oper.wp P o a w K Q else E:=by
 have hw:Bs o (yielded ops a.tmps)=true:=by simp[Bs,hgd]
 rw[if_pos hw];exact I17
theorem P7 {w1:World}(hgd:o.guard=none)(s x:Operand)(t:TypeId)
 (ho:o.op=.call { callee:=.builtin .append,args:=#[s,x],argTypes:=#[t,t] })
 (w0:World) (base e:Nat) (i:TypeInfo) (zv:Value) (z bytes:Nat) (ht:P.underlying t=some (.slice e)) (hi:P.info? e=some i) (hz:i.zero=some zv)
 (hsize:i.size=z) (hby:i.bytes=bytes) (hzs:zv.cells.size=z) (hsz:0<z)
 (A:Option Addr) (n c:Nat) (xs:List Value) (hs:a.eval s=.slice A n c) (hown:Bd w1 base e z A n c xs)
 (us:Array Value) (hu:us.size=z) (h1:∀u∈us.toList,u.oneCell'=true) (hx:a.eval x=.slice (some ⟨w1.heap.size,0,none⟩) 1 1)
 (h63:n+1≤maxLen) (hbytes:(n+1)*bytes≤140737488355328) (he:An w0 w1) (hb:w0.heap.size≤base) (hbase:base≤w1.heap.size)
 (h:∀A' c' w',Bd w' base e z A' (n+1) c' (xs++us.toList)→w1.grownBy w' (Ak A n c).ownBlock→((Ak A' (n+1) c').ownBlock=(Ak A n c).ownBlock∨∃g,w1.heap.size≤g∧(Ak A' (n+1) c').ownBlock=some g)→An w0 w'→
  K (a.put o.dst (.slice A' (n+1) c')) w'):if Bs o (yielded ops a.tmps)=true then Oper.wp P o a (w1.alloc (.cells us e)) K Q else E:=by
 have N1:=trivial;exact K44
theorem By {ars:Array Operand}{tys:Array TypeId}(hgd:o.guard=none)
 (f:FuncId) (args:Array Value) (ho:o.op=.call { callee:=.value (.func f),args:=ars,argTypes:=tys }) (hrun:(execOp a.eval o).run P w=.ok (.enter f args) w) (R:Value→World→Prop)
 (hc:Calls P f args w fun e w'=>∃v,e=.returned v∧R v w') (h:∀v w',R v w'→K (a.put o.dst v) w'):if Bs o (yielded ops a.tmps)=true then Oper.wp P o a w K Q else E:=by
 have hw:Bs o (yielded ops a.tmps)=true:=by simp[Bs,hgd]
 rw[if_pos hw];exact I17
theorem bE {n c m d:Nat}(hl:Bl w A n c l)(hl':Bl w B m d l'):
 Calls Tryz.prog 12 #[.slice A n c,.slice B m d] w fun e w'=>e=.returned (.bool (Zm l l'))∧∃k,w'=w.drewN k:=by
 have h1:=hl.ncap;have h2:=hl.nmax;have h3:=hl'.ncap;have h4:=hl'.nmax;have e1:=A6 hl.len;have e2:=A6 hl'.len;unfold maxLen at h2 h4;by_cases hnm:n=m
 ·subst hnm
  have hne:((n:Int) !=(n:Int))=false:=by simp
  go_enter Tryz.func12,Tryz.ntmps12
  go_wp2_with fail
  go_loopw [13] (fun i wr=>∃k:Nat,k≤n∧i=.int .i64 k∧Hid (l.take k=l'.take k)∧∃q,wr=w.drewN q) (fun i _=>n-(intOf i).toNat)
  case atStart=>exact⟨0,by omega,rfl,rfl,0,rfl⟩
  case round=>
   obtain⟨k,hk,rfl,ht,q,rfl⟩:=hrel;by_cases hlt:k<n
   ·obtain⟨a1,rfl,hc1⟩:=hl.at_ hlt
    obtain⟨a2,rfl,hc2⟩:=hl'.at_ hlt;have c1:=hc1 k hlt;have c2:=hc2 k hlt;clear hc1 hc2;by_cases heq:gI l k=gI l' k
    ·have b1:(gI l k !=gI l' k)=false:=by simpa using heq
     have HN:=A6 heq;clear heq;go_wp2_with fail
     go_quiet (fail)
     go_wp2_with fail
     go_roundw
     case rel=>exact⟨k+1,by omega,by go_num,Z8 e1.out e2.out hlt ht.out HN.out,q+nq,rfl⟩
     case measure=>simp[intOf];omega
    ·have b1:(gI l k !=gI l' k)=true:=by simpa using heq
     have HN:=A6 heq;clear heq;go_wp2_with fail
     go_quiet (fail)
     go_wp2_with fail
     go_ret
     exact⟨Gf (Y4.2 (fun e=>HN.out (by rw[e]))).symm,_,Q0 _ _ _⟩
   ·obtain rfl:k=n:=by omega
    go_wp2_with fail
    go_ret
    exact⟨Gf (Va.2 (bX e1.out e2.out ht.out)).symm,_,rfl⟩
 ·have hne:((n:Int) !=(m:Int))=true:=by simp;omega
  have hf:Zm l l'=false:=Y4.2 (fun e=>hnm (by rw[←e1.out,←e2.out,e]))
  go_enter Tryz.func12,Tryz.ntmps12
  go_wp2_with fail
  go_ret
  exact⟨Gf hf.symm,0,rfl⟩
theorem Sv {n c m d:Nat}(hl:Bl w A n c l)(hl':Bl w B m d l'):
 Calls Tryz.prog 12 #[.slice A n c,.slice B m d] w fun e w'=>e=.returned (.bool (Zm l l'))∧An w w':=
 (bE hl hl').mono fun e w' ⟨h1,k,h2⟩=>⟨h1,by rw[h2];exact An.drewN _ _⟩
def Tz (l:List Int)(m k:Nat):Prop:=k<m∧∀j,j<k→gI l j=gI l (m-k+j)
instance (l:List Int)(m k:Nat):Decidable (Tz l m k):=by unfold Tz;exact inferInstance
theorem bL {m:Nat}(h:0<m):Tz l m 0:=⟨h,fun _ h=>absurd h (by omega)⟩
def Ug (l:List Int)(m:Nat):Nat→Nat
 |0=>0
 |k+1=>if Tz l m (k+1)then k+1 else Ug l m k
def bl (l:List Int)(m:Nat):Nat:=Ug l m (m-1)
theorem mW {m:Nat}(hm:0<m)(k:Nat):Tz l m (Ug l m k):=by
 induction k with
 |zero=>exact bL hm
 |succ k ih=>unfold Ug;split<;>assumption
theorem mV {m:Nat}(k:Nat){j:Nat}(hj:Tz l m j)(hk:j≤k):j≤Ug l m k:=by
 induction k with
 |zero=>simp[Ug];omega
 |succ k ih=>
  unfold Ug;split
  ·exact hk
  ·rename_i hn
   rcases Ay k j with h|h
   ·obtain rfl:j=k+1:=by omega
    exact absurd hj hn
   ·exact ih h
theorem Sf {l:List Int}{m:Nat}(hm:0<m):Tz l m (bl l m):=mW hm _
theorem Ul {m j:Nat}(hj:Tz l m j):j≤bl l m:=mV _ hj (by have:=hj.1;omega)
theorem X2 {l:List Int}{m:Nat}(hm:0<m):bl l m<m:=(Sf hm).1
theorem xS {m k:Nat}(hk:Tz l m k)(hmax:∀j,Tz l m j→j≤k):bl l m=k:=
 Nat.le_antisymm (hmax _ (Sf (by have:=hk.1;omega))) (Ul hk)
theorem mP (h:Tz l i k)(h':Tz l k j):Tz l i j:=by
 refine⟨by have:=h.1;have:=h'.1;omega,fun t ht=>?_⟩
 have h1:=h'.1;exact I116
theorem fY (h:Tz l i k)(h':Tz l i j)(hlt:j<k):Tz l k j:=by
 refine⟨hlt,fun t ht=>?_⟩
 exact I116
theorem Ve (h:Tz l (i+1) (k+1)):Tz l i k∧gI l k=gI l i:=by
 refine⟨⟨by have:=h.1;omega,fun t ht=>?_⟩,?_⟩
 ·rw[h.2 t (by omega)];congr 1;omega
 ·have:=h.1
  rw[h.2 k (by omega)];congr 1;omega
theorem sP (h:Tz l i k)(he:gI l k=gI l i):Tz l (i+1) (k+1):=by
 refine⟨by have:=h.1;omega,fun t ht=>?_⟩
 have:=h.1;rcases Ay t k with h1|h1
 ·rw[h.2 t h1];congr 1;omega
 ·obtain rfl:t=k:=by omega
  rw[he];congr 1;omega
def jA (l:List Int)(i k:Nat):Prop:=Tz l i k∧∀j,Tz l (i+1) (j+1)→j≤k
theorem fS (hi:0<i):jA l i (bl l i):=⟨Sf hi,fun _ h=>Ul (Ve h).1⟩
theorem mL (h:jA l i k)(hk:0<k)(hne:gI l k≠gI l i):jA l i (bl l k):=by
 refine⟨mP h.1 (Sf hk),fun j hj=>?_⟩
 have h1:=h.2 j hj;obtain⟨h2,h3⟩:=Ve hj;have:j≠k:=fun e=>hne (by rw[←e];exact h3)
 exact Ul (fY h.1 h2 (by omega))
theorem Ru (h:jA l i k)(he:gI l k=gI l i):bl l (i+1)=k+1:=
 xS (sP h.1 he) fun j hj=>by
  rcases j with _|j
  ·omega
  ·have:=h.2 j hj;omega
theorem Yc (h:jA l i 0)(hne:gI l 0≠gI l i):bl l (i+1)=0:=
 xS (bL (by omega)) fun j hj=>by
  rcases j with _|j
  ·omega
  ·have:=h.2 j hj
   obtain rfl:j=0:=by omega
   exact absurd (Ve hj).2 hne
def Qz (l:List Int):List Int:=(List.range l.length).map fun i=>(bl l (i+1):Int)
def Lg (l:List Int)(i:Nat):List Int:=(List.range l.length).map fun j=>if j<i then(bl l (j+1):Int)else 0
theorem sM (l:List Int)(i:Nat):(Lg l i).length=l.length:=by simp[Lg]
theorem oI (l:List Int):bl l 1=0:=by have:=@X2 l 1 (by omega);omega
theorem fW (l:List Int):Lg l 1=List.replicate l.length 0:=by
 apply List.ext_getElem
 ·simp[Lg]
 ·intro j h1 h2
  simp[Lg];intro h;obtain rfl:j=0:=by omega
  simp[oI]
theorem sO (l:List Int)(h:l.length≤i):Lg l i=Qz l:=by
 apply List.ext_getElem
 ·simp[Lg,Qz]
 ·intro j h1 h2
  simp[Lg,Qz]at h1 ⊢;omega
theorem sL (l:List Int):(Lg l i).set i (bl l (i+1))=Lg l (i+1):=by
 apply List.ext_getElem
 ·simp[Lg]
 ·intro j h1 h2
  rw[List.getElem_set];simp[Lg];split
  ·rename_i e;subst e;simp
  ·rename_i hne;by_cases hj:j<i
   ·rw[if_pos hj,if_pos (by omega)]
   ·rw[if_neg hj,if_neg (by omega)]
theorem sN (l:List Int)(h:k<i)(hi:i≤l.length)(hk:0<k):gI (Lg l i) (k-1)=(bl l k:Int):=by
 have:k-1<l.length:=by omega
 simp[gI,Lg,this];rw[if_pos (by omega),show k-1+1=k by omega]
theorem Ye (l:List Int)(hi:k≤l.length)(hk:0<k):gI (Qz l) (k-1)=(bl l k:Int):=by
 have:k-1<l.length:=by omega
 simp[gI,Qz,this];rw[show k-1+1=k by omega]
theorem Yd (l:List Int){i j:Nat}(h:j<l.length):((Lg l i).map (At .i64)).toArray[j]? = some (.int .i64 (gI (Lg l i) j)):=by
 have:j<(Lg l i).length:=by rw[sM];exact h
 simp[gI,this]
theorem Qm {g j:Nat}{t:TypeId}{u:Int}(h:Aq w g t ((Lg l j).map (At .i64)).toArray)(hu:u=(bl l (j+1):Int)):
 Aq (w.setCell ⟨g,j,none⟩ (.int .i64 u)) g t ((Lg l (j+1)).map (At .i64)).toArray:=by
 have:=h.set_ j (.int .i64 u);rw[←sL,←hu,List.map_set,←List.setIfInBounds_toArray];exact this
theorem mR (l:List Int):(Qz l).length=l.length:=by simp[Qz]
theorem Wu:(Tryz.prog.info? 3).map (fun i=>(i.zero,i.size,i.bytes))=some (some (.int .i64 0),1,8):=by kernel_rfl
theorem fX (hl:Bl w A n c l)(hn:n≤4096):
 Calls Tryz.prog 184 #[.slice A n c] w fun e w'=>∃g,e=.returned (.tuple #[.slice (some ⟨g,0,none⟩) n n,.int .i64 0])∧Aq w' g 3 ((Qz l).map (At .i64)).toArray∧w.heap.size≤g∧An w w':=by
 obtain⟨i0,hi,hz0,hz1,hz2⟩:=info_parts Wu;have hlen:=hl.len;have hmk:∀u:World,(Instr.makeSlice 25 (.int .i64 (n:Int)) (.int .i64 (n:Int))).run Tryz.prog u=
  .ok (.slice (some ⟨u.heap.size,0,none⟩) n n) (u.alloc (.cells (madeCells #[.int .i64 0] n) 3)):=fun u=>by
  have h:=run_make (P:=Tryz.prog) u 25 3 i0 (.int .i64 0) Tryz.underlying25 hi hz0 .i64 .i64 (n:Int) (n:Int) (by omega) (Int.le_refl _) (by rw[hz2];omega) (by omega)
  simpa[hz1,Value.cells]using h
 have Hl:=A6 hlen;clear hlen;go_enter Tryz.func184,Tryz.ntmps184
 go_wp2_with fail
 go_loopw [5,6] (fun k i wr=>∃(kn j:Nat),1≤j∧(j≤n∨n=0)∧k=.int .i64 kn∧i=.int .i64 j∧Hid (kn=bl l j)∧
  Aq wr w.heap.size 3 ((Lg l j).map (At .i64)).toArray∧An w wr) (fun _ i _=>n-(intOf i).toNat)
 case atStart=>
  refine⟨0,1,by omega,by omega,rfl,rfl,(oI l).symm,?_,An.alloc _ _⟩
  rw[fW,Hl.out,←Ss];exact Aq.new _ _ _
 case round=>
  obtain⟨kn,j,hj1,hj2,rfl,rfl,hk,hb,he⟩:=hrel;by_cases hlt:j<n
  ·obtain⟨ad,rfl,hcell⟩:=hl.at_ hlt
   have hnle:=hlt;go_wp2_with fail
   go_loopw [5] (fun k w2=>∃kn:Nat,k=.int .i64 kn∧Hid (jA l j kn)∧kn<j∧Aq w2 w.heap.size 3 ((Lg l j).map (At .i64)).toArray∧An w w2) (fun k _=>(intOf k).toNat)
   case atStart=>exact⟨kn,rfl,by rw[hk.out];exact fS hj1,by rw[hk.out];exact X2 hj1,hb,he⟩
   case round=>
    clear hk hb he;obtain⟨kn,rfl,hk,hkj,hb,he⟩:=hrel;have c1:=he.cell (hcell kn (by omega))
    have c2:=he.cell (hcell j (by omega))
    have c3:=(hb.cell j).trans (Yd l (by rw[Hl.out];exact hlt))
    have f3:=hb.frozen j;by_cases hk0:0<kn
    ·by_cases hne:gI l kn=gI l j
     ·have e1:(gI l kn==gI l j)=true:=by simpa using hne
      have e2:(gI l kn !=gI l j)=false:=by simpa using hne
      have HN:=A6 hne;clear hne;go_wp2_with fail
      go_quiet (fail)
      go_wp2_with fail
      go_quiet (fail)
      go_wp2_with fail
      go_roundw
      case rel=>exact⟨kn+1,j+1,by omega,by omega,by go_num,by go_num,(Ru hk.out HN.out).symm,Qm (hb.drewN _) (by rw[Ru hk.out HN.out];omega),((he.to_drewN _).setCell (Aj _) _)⟩
      case measure=>simp[intOf];omega
     ·have e1:(gI l kn==gI l j)=false:=by simpa using hne
      have e2:(gI l kn !=gI l j)=true:=by simpa using hne
      have HN:=A6 hne;clear hne;have c4:=(hb.cell (kn-1)).trans (Yd l (by rw[Hl.out];omega))
      have e4:gI (Lg l j) (kn-1)=(bl l kn:Int):=sN l hkj (by rw[Hl.out];omega) hk0
      rw[e4]at c4;clear e4;go_wp2_with fail
      go_quiet (fail)
      go_wp2_with fail
      go_roundw
      case rel=>exact⟨bl l kn,rfl,mL hk.out hk0 HN.out,by have:=@X2 l kn hk0;omega,hb,he.to_drewN _⟩
      case measure=>have:=@X2 l kn hk0;simp[intOf];omega
    ·obtain rfl:kn=0:=by omega
     have hn0:0<n:=by omega
     rw[Du]at c1;by_cases hne:gI l 0=gI l j
     ·have e1:(gI l 0==gI l j)=true:=by simpa using hne
      have HN:=A6 hne;clear hne;go_wp2_with fail
      go_quiet (fail)
      go_wp2_with fail
      go_quiet (fail)
      go_wp2_with fail
      go_roundw
      case rel=>exact⟨1,j+1,by omega,by omega,by go_num,by go_num,(Ru hk.out HN.out).symm,Qm (hb.drewN _) (by rw[Ru hk.out HN.out];omega),((he.to_drewN _).setCell (Aj _) _)⟩
      case measure=>simp[intOf];omega
     ·have e1:(gI l 0==gI l j)=false:=by simpa using hne
      have HN:=A6 hne;clear hne;go_wp2_with fail
      go_quiet (fail)
      go_wp2_with fail
      go_quiet (fail)
      go_wp2_with fail
      go_roundw
      case rel=>exact⟨0,j+1,by omega,by omega,by go_num,by go_num,(Yc hk.out HN.out).symm,Qm (hb.drewN _) (by rw[Yc hk.out HN.out];omega),((he.to_drewN _).setCell (Aj _) _)⟩
      case measure=>simp[intOf];omega
  ·go_wp2_with fail
   go_ret2
   exact⟨_,rfl,by rw[←sO l (show l.length≤j by rw[Hl.out];omega)];exact hb,Aj _,he⟩
theorem Zi (hl:Bl w A n c l)(hn:n≤4096):
 Calls Tryz.prog 184 #[.slice A n c] w fun e w'=>∃B,e=.returned (.tuple #[.slice B n n,.int .i64 0])∧Bl w' B n n (Qz l)∧An w w':=
 (fX hl hn).mono fun e w' ⟨g,h1,h2,h3,h4⟩=>⟨_,h1,h2.ints (by rw[mR,hl.len]) (by unfold maxLen;omega),h4⟩
def cO (p s:List Int)(i k:Nat):Prop:=k≤i∧k≤p.length∧∀j,j<k→gI p j=gI s (i-k+j)
def occ (p s:List Int)(x:Nat):Prop:=∀j,j<p.length→gI p j=gI s (x+j)
instance (p s:List Int)(x:Nat):Decidable (occ p s x):=by unfold occ;exact inferInstance
theorem aH (p s:List Int)(i:Nat):cO p s i 0:=⟨Aw _,Aw _,fun _ h=>absurd h (by omega)⟩
theorem Ri (h:cO p s (i+1) (k+1)):cO p s i k∧gI p k=gI s i:=by
 obtain⟨h1,h2,h3⟩:=h;refine⟨⟨by omega,by omega,fun j hj=>?_⟩,?_⟩
 ·rw[h3 j (by omega)];congr 1;omega
 ·rw[h3 k (by omega)];congr 1;omega
theorem Ut (h:cO p s i k)(hk:k<p.length)(he:gI p k=gI s i):cO p s (i+1) (k+1):=by
 obtain⟨h1,h2,h3⟩:=h;refine⟨by omega,by omega,fun j hj=>?_⟩
 rcases Ay j k with h4|h4
 ·rw[h3 j h4];congr 1;omega
 ·obtain rfl:j=k:=by omega
  rw[he];congr 1;omega
theorem gW (h:cO p s i k)(h':Tz p k j):cO p s i j:=by
 obtain⟨h1,h2,h3⟩:=h;have h4:=h'.1;refine⟨by omega,by omega,fun t ht=>?_⟩
 rw[h'.2 t ht,h3 (k-j+t) (by omega)]
 congr 1
 omega
theorem Wf (h:cO p s i k)(h':cO p s i j)(hlt:j<k):Tz p k j:=by
 obtain⟨h1,h2,h3⟩:=h;obtain⟨g1,g2,g3⟩:=h';refine⟨hlt,fun t ht=>?_⟩
 rw[g3 t ht,h3 (k-j+t) (by omega)]
 congr 1
 omega
def Ym (p s:List Int)(i k:Nat):Prop:=cO p s i k∧k<p.length∧∀j,cO p s i j→j<p.length→j≤k
def Uc (p s:List Int)(i k:Nat):Prop:=cO p s i k∧k<p.length∧∀j,cO p s (i+1) (j+1)→j≤k
theorem eU {p:List Int}(s:List Int)(h:0<p.length):Ym p s 0 0:=⟨aH _ _ _,h,fun j hj _=>hj.1⟩
theorem fR (h:Ym p s i k):Uc p s i k:=
 ⟨h.1,h.2.1,fun j hj=>h.2.2 j (Ri hj).1 (by have:=hj.2.1;omega)⟩
theorem mK (h:Uc p s i k)(hk:0<k)(hne:gI p k≠gI s i):Uc p s i (bl p k):=by
 have hb:=@Sf p k hk;refine⟨gW h.1 hb,by have:=hb.1;have:=h.2.1;omega,fun j hj=>?_⟩
 have h1:=h.2.2 j hj;obtain⟨h2,h3⟩:=Ri hj;have:j≠k:=fun e=>hne (by rw[←e];exact h3)
 exact Ul (Wf h.1 h2 (by omega))
theorem vR (h:Uc p s i k)(he:gI p k=gI s i)(hm:k+1<p.length):Ym p s (i+1) (k+1):=
 ⟨Ut h.1 h.2.1 he,hm,fun j hj _=>by
  rcases j with _|j
  ·omega
  ·have:=h.2.2 j hj;omega⟩
theorem rK (h:Uc p s i k)(he:gI p k=gI s i)(hm:k+1=p.length):Ym p s (i+1) (bl p p.length):=by
 have h0:0<p.length:=by omega
 have hs:=Ut h.1 h.2.1 he;rw[hm]at hs;have hb:=@Sf p p.length h0;exact⟨gW hs hb,hb.1,fun j hj hlt=>Ul (Wf hs hj hlt)⟩
theorem qH (h:Uc p s i 0)(hne:gI p 0≠gI s i):Ym p s (i+1) 0:=
 ⟨aH _ _ _,h.2.1,fun j hj _=>by
  rcases j with _|j
  ·omega
  ·have h1:=h.2.2 j hj
   obtain rfl:j=0:=by omega
   exact absurd (Ri hj).2 hne⟩
def M6 (p s:List Int)(i:Nat):List Int:=((List.range (i+1-p.length)).filter fun x=>decide (occ p s x)).map fun x:Nat=>(x:Int)
def Yp (p s:List Int):List Int:=M6 p s s.length
theorem eH {p:List Int}(s:List Int)(h:0<p.length):M6 p s 0=[]:=by
 unfold M6;rw[show 0+1-p.length=0 by omega]
 rfl
theorem pO (h:Uc p s i k)(he:gI p k=gI s i)(hm:k+1=p.length):M6 p s (i+1)=M6 p s i++[((i:Int)+1-p.length)]:=by
 have hs:=Ut h.1 h.2.1 he;rw[hm]at hs;obtain⟨h1,h2,h3⟩:=hs;have ho:occ p s (i+1-p.length):=fun j hj=>h3 j hj
 unfold M6;rw[show i+1+1-p.length=(i+1-p.length)+1 by omega,List.range_succ,List.filter_append,List.map_append]
 congr 1
 simp[ho];omega
theorem iB (h0:0<p.length)(hno:¬cO p s (i+1) p.length):M6 p s (i+1)=M6 p s i:=by
 unfold M6;rcases Ay (i+1) p.length with h1|h1
 ·rw[show i+1+1-p.length=0 by omega,show i+1-p.length=0 by omega]
 ·rw[show i+1+1-p.length=(i+1-p.length)+1 by omega,List.range_succ,List.filter_append,List.map_append]
  have ho:¬occ p s (i+1-p.length):=fun ho=>hno ⟨h1,Aj _,fun j hj=>ho j hj⟩
  simp[ho]
theorem kW (h:Uc p s i k)(hm:k+1<p.length):¬cO p s (i+1) p.length:=fun hs=>by
 have h1:p.length=(p.length-1)+1:=by omega
 rw[h1]at hs;have:=h.2.2 _ hs;omega
theorem eK (h:Uc p s i 0)(hne:gI p 0≠gI s i):¬cO p s (i+1) p.length:=fun hs=>by
 have h0:=h.2.1;have h1:p.length=(p.length-1)+1:=by omega
 rw[h1]at hs;have h2:=h.2.2 _ hs;have h3:p.length-1=0:=by omega
 rw[h3]at hs;exact hne (Ri hs).2
theorem sZ {n m c d:Nat}(hp:Bl w A n c p)(hs:Bl w B m d s)(hn:n≤4096)(h0:0<n)(hm:m≤4096):
 Calls Tryz.prog 178 #[.slice A n c,.slice B m d] w fun e w'=>∃C n' c',e=.returned (.tuple #[.slice C n' c',.int .i64 0])∧Av w' w.heap.size C n' c' (Yp p s)∧An w w':=by
 obtain⟨i0,hi,hz0,hz1,hz2⟩:=info_parts Cb;have hpl:=A6 hp.len;have hsl:=A6 hs.len;have hn0:((n:Int)==0)=false:=by simp;omega
 obtain⟨pa,rfl,hpc⟩:=hp.at_ h0;go_enter Tryz.func178,Tryz.ntmps178
 go_wp2_with fail
 refine(Zi hp (by omega)).mono ?_
 rintro e w1 ⟨B1,rfl,hb1,he1⟩;obtain⟨ba,rfl,hbc⟩:=hb1.at_ h0;go_wp2_with fail
 go_loopw [8,10,41] (fun v k i wr=>∃(kn j q:Nat) (C:Option Addr) (c':Nat),kn<n∧j≤m∧q≤j+1∧k=.int .i64 kn∧i=.int .i64 j∧v=.slice C q c'∧Hid (Ym p s j kn)∧Av wr w1.heap.size C q c' (M6 p s j)∧An w1 wr) (fun _ _ i _=>m-(intOf i).toNat)
 case atStart=>exact⟨0,0,0,none,0,h0,by omega,by omega,rfl,rfl,rfl,eU s (by rw[hpl.out];exact h0),by rw[eH s (by rw[hpl.out];exact h0)];exact Av.nil _ _,An.refl _⟩
 case round=>
  obtain⟨kn,j,q,C,c',hkn,hj,hq,rfl,rfl,rfl,hmx,hown,he2⟩:=hrel;by_cases hlt:j<m
  ·obtain⟨sa,rfl,hsc⟩:=hs.at_ hlt
   have sj:=he2.cell (he1.cell (hsc j hlt));go_wp2_with fail
   go_loopw [10] (fun k w2=>∃kn:Nat,kn<n∧k=.int .i64 kn∧Hid (Uc p s j kn)∧w2=wr) (fun k _=>(intOf k).toNat)
   case atStart=>exact⟨kn,hkn,rfl,fR hmx.out,rfl⟩
   case round=>
    clear hmx hkn;obtain⟨kn,hkn,rfl,hcan,rfl⟩:=hrel;have pk:=he2.cell (he1.cell (hpc kn hkn));by_cases hne:gI p kn=gI s j
    ·have e1:(gI p kn==gI s j)=true:=by simpa using hne
     have e2:(gI p kn !=gI s j)=false:=by simpa using hne
     have HN:=A6 hne;clear hne;by_cases hfull:kn+1=n
     ·have hf:((kn:Int)+1==n)=true:=by simp;omega
      have bk:w1.cell? (ba.add kn)=some (.int .i64 (bl p n)):=by
       rw[←Ye p (by rw[hpl.out];exact Aj _) h0,show n-1=kn by omega];exact hbc kn (by omega)
      have hblt:=@X2 p n h0;have hposl:Hid (M6 p s (j+1)=M6 p s j++[((j:Int)+1-(n:Int))]):=by
       have:=pO hcan.out HN.out (by rw[hpl.out];exact hfull)
       rw[hpl.out]at this;exact this
      have hmx:Hid (Ym p s (j+1) (bl p n)):=by
       have:=rK hcan.out HN.out (by rw[hpl.out];exact hfull)
       rw[hpl.out]at this;exact this
      have HF:=A6 hfull;have hfull':kn+1≤n:=by omega
      clear hfull;rcases Bo kn with hk0|hk0
      ·have N0:=trivial;exact K41
      ·have N1:=trivial;exact K41
     ·have hf:((kn:Int)+1==n)=false:=by simp;omega
      have hposl:Hid (M6 p s (j+1)=M6 p s j):=iB (by rw[hpl.out];exact h0) (kW hcan.out (by rw[hpl.out];omega))
      have hmx:Hid (Ym p s (j+1) (kn+1)):=vR hcan.out HN.out (by rw[hpl.out];omega)
      rcases Bo kn with hk0|hk0
      ·subst hk0
       rw[Du]at pk;clear hcan HN;go_wp2_with fail
       go_roundw
       case rel=>exact⟨1,j+1,q,C,c',by omega,by omega,by omega,by go_num,by go_num,rfl,hmx,by rw[hposl.out];exact hown,he2⟩
       case measure=>simp[intOf];omega
      ·clear hcan HN
       go_wp2_with fail
       go_roundw
       case rel=>exact⟨kn+1,j+1,q,C,c',by omega,by omega,by omega,by go_num,by go_num,rfl,hmx,by rw[hposl.out];exact hown,he2⟩
       case measure=>simp[intOf];omega
    ·have e1:(gI p kn==gI s j)=false:=by simpa using hne
     have e2:(gI p kn !=gI s j)=true:=by simpa using hne
     rcases Bo kn with hk0|hk0
     ·subst hk0
      rw[Du]at pk;have hf:((0:Int)==n)=false:=by simp;omega
      have hposl:Hid (M6 p s (j+1)=M6 p s j):=iB (by rw[hpl.out];exact h0) (eK hcan.out hne)
      have hmx:Hid (Ym p s (j+1) 0):=qH hcan.out hne;clear hne hcan;go_wp2_with fail
      go_roundw
      case rel=>exact⟨0,j+1,q,C,c',h0,by omega,by omega,by go_num,by go_num,rfl,hmx,by rw[hposl.out];exact hown,he2⟩
      case measure=>simp[intOf];omega
     ·have bk:wr.cell? (ba.add (kn-1))=some (.int .i64 (bl p kn)):=by
       rw[←Ye p (by rw[hpl.out];omega) hk0];exact he2.cell (hbc _ (by omega))
      have hblt:=@X2 p kn hk0;have hcan':Hid (Uc p s j (bl p kn)):=mK hcan.out hk0 hne;clear hne hcan;go_wp2_with fail
      go_roundw
      case rel=>exact⟨bl p kn,by omega,rfl,hcan',trivial⟩
      case measure=>simp[intOf];omega
  ·obtain rfl:j=m:=by omega
   go_wp2_with fail
   go_ret2
   exact⟨C,q,c',rfl,by unfold Yp;rw[hsl.out];exact Bd.lower hown he1.hsize,he1.trans he2⟩
structure Pt where
 first:Int
 reg:Int
 op:Int
 second:Int
 wait:Int
structure Cm where
 count:Int
 reg:Int
 op:Int
 verb:Int
 arg:Int
def Pt.zero:Pt:=⟨0,0,0,0,0⟩
def Cm.zero:Cm:=⟨0,0,0,0,0⟩
def Wp (c:Int):Bool:=if 97≤c∧c≤122 then true else decide (65≤c∧c≤90)
def H8 (c:Int):Bool:=c==100||c==99||c==121
def Lp (p:Pt):Bool:=decide (p.first<0)||decide (999<p.first)||decide (p.second<0)||decide (999<p.second)||(decide (0<p.second)&&p.op==0)
def Qc (p:Pt):Bool:=(p.reg !=0 && !Wp p.reg)||(p.op !=0 && !H8 p.op)
def D6 (p:Pt):Bool:=
 if p.wait==0||p.wait==102||p.wait==70||p.wait==116||p.wait==84 then true
 else if p.wait==114||p.wait==34 then p.op==0&&(p.wait==114||p.reg==0)
 else if p.wait==105||p.wait==97 then p.op !=0
 else false
def Ey (p:Pt):Bool:=!Lp p && !Qc p&&D6 p
def Kw (k:Int):Bool:=k==104||k==108||k==48||k==94||k==36||k==124||k==119||k==87||k==98||k==66||k==101||k==69||k==37||k==59||k==44
def Gq (k:Int):Bool:=k==102||k==70||k==116||k==84
def Fp (k:Int):Bool:=k==73||k==65||k==115||k==83||k==67||k==68||k==120||k==88||k==112||k==80||k==89||k==126||k==117||k==85||k==46||k==106||k==107||k==71||k==47||k==63||k==110||k==78||k==82
def Ub (p:Pt):Int:=if p.op==0 then p.first else p.second
def Hr (p:Pt)(k:Int):Bool:=(decide (49≤k)&&decide (k≤57))||(k==48&&decide (0<Ub p))
def Be (p:Pt)(k:Int):Int:=
 if Hr p k then 1 else if H8 k then 3 else if Kw k then 5 else if Gq k then 4
 else if k==105||k==97 then(if p.op !=0 then 8 else 6)
 else if p.op !=0 then 0
 else if k==34 then(if p.reg !=0 then 0 else 2)
 else if k==114 then 7
 else if Fp k then 6 else 0
def Ez (n k:Int):Int:=min 999 (10*n+k-48)
def Yl (p:Pt):Int:=if p.first==0 then p.second else if p.second==0 then p.first else min 999 (p.first*p.second)
def Nm (p:Pt)(v a:Int):Cm:=⟨Yl p,p.reg,p.op,v,a⟩
def yC (k:Int):Bool:=k==119||k==87||k==40||k==41||k==91||k==93||k==123||k==125||k==34||k==39||k==96
structure Tk where
 p:Pt
 c:Cm
 how:Int
def E0:Tk:=⟨Pt.zero,Cm.zero,3⟩
def G4 (p:Pt)(k:Int):Tk:=
 if p.wait==34 then(if Wp k then⟨{ p with reg:=k,wait:=0 },Cm.zero,1⟩else E0)
 else if p.wait==105||p.wait==97 then(if yC k then⟨Pt.zero,Nm p p.wait k,2⟩else E0)
 else⟨Pt.zero,Nm p p.wait k,2⟩
def Cc (p:Pt)(k:Int):Tk:=
 if k<32∨k=127 then E0
 else if p.wait≠0 then G4 p k
 else if Be p k=1 then(if p.op≠0 then⟨{ p with second:=Ez p.second k },Cm.zero,1⟩else⟨{ p with first:=Ez p.first k },Cm.zero,1⟩)
 else if Be p k=2∨Be p k=4∨Be p k=7∨Be p k=8 then⟨{ p with wait:=k },Cm.zero,1⟩
 else if Be p k=3 then(if p.op=0 then⟨{ p with op:=k },Cm.zero,1⟩else if p.op≠k then E0 else⟨Pt.zero,Nm p k 0,2⟩)
 else if Be p k=5∨Be p k=6 then⟨Pt.zero,Nm p k 0,2⟩
 else E0
theorem eW {f r o s k:Int}(h:Be ⟨f,r,o,s,0⟩ k=2∨Be ⟨f,r,o,s,0⟩ k=4∨Be ⟨f,r,o,s,0⟩ k=7∨Be ⟨f,r,o,s,0⟩ k=8):D6 ⟨f,r,o,s,k⟩=true:=by
 unfold Be at h;by_cases a1:Hr ⟨f,r,o,s,0⟩ k=true
 ·simp[a1]at h
 by_cases a2:H8 k=true
 ·simp[a1,a2]at h
 by_cases a3:Kw k=true
 ·simp[a1,a2,a3]at h
 by_cases a4:Gq k=true
 ·unfold D6
  simp[Gq]at a4;rw[if_pos (by simp;omega)]
 by_cases a5:k=105∨k=97
 ·have a5':(k==105||k==97)=true:=by simpa using a5
  by_cases ho:o=0
  ·subst ho;simp[a1,a2,a3,a4,a5']at h
  ·unfold D6
   rw[if_neg (by simp;omega),if_neg (by simp;omega),if_pos (by simpa using a5)]
   simpa using ho
 ·have a5':(k==105||k==97)=false:=by simpa using a5
  by_cases ho:o=0
  ·subst ho
   by_cases a6:k=34
   ·subst a6
    by_cases hr:r=0
    ·subst hr;rfl
    ·simp[a1,a2,a3,a4,hr]at h
   ·by_cases a7:k=114
    ·subst a7;rfl
    ·have a6':(k==34)=false:=by simpa using a6
     have a7':(k==114)=false:=by simpa using a7
     simp only[a1,a2,a3,a4,a5',a6',a7',if_false,Bool.false_eq_true]at h;exfalso
     revert h
     by_cases a8:Fp k=true<;>simp[a8]
  ·simp[a1,a2,a3,a4,a5',ho]at h
theorem Hm:Ey Pt.zero=true:=by decide
theorem L6 {p:Pt}{k:Int}(h:Ey p=true):Ey (Cc p k).p=true∧((Cc p k).how=1∨(Cc p k).how=2∨(Cc p k).how=3)∧((Cc p k).how≠1→(Cc p k).p=Pt.zero)∧
 ((Cc p k).how=1→(Cc p k).p=p→p.first=999∨p.second=999):=by
 obtain⟨f,r,o,s,wt⟩:=p;unfold Cc;split
 ·exact⟨Hm,by simp[E0],fun _=>rfl,by simp[E0]⟩
 rename_i hk;split
 ·rename_i hw
  unfold G4;split
  ·rename_i h34
   split
   ·rename_i hl
    simp only at h34 hl hw;have h34':wt=34:=by simpa using h34
    subst h34';refine⟨?_,by simp,by simp,?_⟩
    ·simp only[Ey,Lp,Qc,D6]at h ⊢
     simp at h ⊢;obtain⟨⟨h1,h2,h3⟩,h4⟩:=h;exact⟨h1,.inr hl,h3⟩
    ·intro _ e
     injection e with _ _ _ _ e;omega
   ·exact⟨Hm,by simp[E0],fun _=>rfl,by simp[E0]⟩
  ·split
   ·exact I69
   ·exact⟨Hm,by simp,fun _=>rfl,by simp⟩
 rename_i hw;simp only[ne_eq,Decidable.not_not]at hw;subst hw;split
 ·rename_i hd
  have hdb:Hr ⟨f,r,o,s,0⟩ k=true:=by
   unfold Be at hd;split at hd
   ·assumption
   ·exfalso;revert hd;(repeat' split)<;>decide
  have hb:0≤f∧f≤999∧0≤s∧s≤999:=by
   simp[Ey,Lp]at h;omega
  split
  ·rename_i ho
   simp only[ne_eq]at ho;have hcs:Ub ⟨f,r,o,s,0⟩=s:=by unfold Ub;simp[ho]
   simp[Hr,hcs]at hdb;have hc:0≤Ez s k∧Ez s k≤999∧(Ez s k=s→s=999):=by unfold Ez;omega
   refine⟨?_,by simp,by simp,?_⟩
   ·simp[Ey,Lp,Qc,D6]at h ⊢
    simp[ho]at h ⊢;refine⟨?_,h.2⟩
    omega
   ·intro _ e
    injection e with _ _ _ e _;exact .inr (hc.2.2 e)
  ·rename_i ho
   simp only[ne_eq,Decidable.not_not]at ho;subst ho;have hcs:Ub ⟨f,r,0,s,0⟩=f:=by unfold Ub;simp
   simp[Hr,hcs]at hdb;have hc:0≤Ez f k∧Ez f k≤999∧(Ez f k=f→f=999):=by unfold Ez;omega
   refine⟨?_,by simp,by simp,?_⟩
   ·simp[Ey,Lp,Qc,D6]at h ⊢
    refine⟨?_,h.2⟩
    omega
   ·intro _ e
    injection e with e _ _ _ _;exact .inl (hc.2.2 e)
 rename_i hd;split
 ·rename_i hq
  have hk0:k≠0:=by omega
  have hwk:=eW (f:=f) (s:=s) hq;refine⟨?_,by simp,by simp,?_⟩
  ·simp only[Ey,Lp,Qc]at h ⊢
   rw[hwk];simp at h ⊢;exact h.1
  ·intro _ e
   injection e with _ _ _ _ e;exact absurd e hk0
 rename_i hq;split
 ·rename_i ho3
  have hob:H8 k=true:=by
   unfold Be at ho3;split at ho3
   ·exact absurd ho3 (by decide)
   ·split at ho3
    ·assumption
    ·exfalso;revert ho3;(repeat' split)<;>decide
  split
  ·rename_i ho
   simp only at ho;subst ho;have hk0:k≠0:=by omega
   refine⟨?_,by simp,by simp,?_⟩
   ·simp[Ey,Lp,Qc,D6]at h ⊢
    simp[hob,hk0];exact⟨h.1.1,h.2⟩
   ·intro _ e
    injection e with _ _ e _ _;exact absurd e hk0
  ·split
   ·exact⟨Hm,by simp[E0],fun _=>rfl,by simp[E0]⟩
   ·exact⟨Hm,by simp,fun _=>rfl,by simp⟩
 exact I69
def T8 (N:List Nat)(w w':World):Prop:=w.heap.size≤w'.heap.size∧∀k,k<w.heap.size→k∉N→w'.heap[k]? = w.heap[k]?
section
variable {N:List Nat} {w w' w'':World} {base e z n c:Nat} {A:Option Addr} {xs:List Value}
theorem An.eqv (h:An w w')(N:List Nat):T8 N w w':=⟨h.hsize,fun k hk _=>Below.block h k hk⟩
theorem T8.refl (N:List Nat)(w:World):T8 N w w:=⟨Nat.le_refl _,fun _ _ _=>rfl⟩
theorem T8.trans (h:T8 N w w')(k:T8 N w' w''):T8 N w w'':=⟨Nat.le_trans h.1 k.1,fun j hj hn=>(k.2 j (Nat.lt_of_lt_of_le hj h.1) hn).trans (h.2 j hj hn)⟩
theorem T8.setCell (w:World)(p:Addr)(u:Value)(hp:p.block∈N):T8 N w (w.setCell p u):=by
 refine⟨by simp,fun k _ hn=>?_⟩
 unfold World.setCell;rw[Array.getElem?_modify,if_neg (fun e=>hn (by rw[←e];exact hp))]
theorem T8.grown {row:Option Nat}(hg:w.grownBy w' row)(hr:∀k,row=some k→k∈N):T8 N w w':=
 ⟨hg.size,fun k hk hn=>hg.block k hk (fun e=>hn (hr k e.symm))⟩
theorem Bd.eqv (h:Bd w base e z A n c xs)(he:T8 N w w')(hb:∀k,(Ak A n c).ownBlock=some k→k∉N):Bd w' base e z A n c xs:=by
 obtain⟨h1,h2⟩:=h;refine⟨h1,?_⟩
 rcases h2 with h2|⟨g,cap,cur,hv,hbb,hg,r⟩
 ·exact .inl h2
 ·refine .inr ⟨g,cap,cur,hv,hbb,?_,r⟩
  injection hv with hA _ _;subst hA;rw[he.2 g (Array.getElem?_eq_some_iff.1 hg).1 (hb g rfl)];exact hg
theorem Aq.eqv {g t:Nat}{cs:Array Value}(h:Aq w g t cs)(he:T8 N w w')(hg:g∉N):Aq w' g t cs:=(he.2 g h.lt hg).trans h
theorem Bd.unlike {base' e' z' n' c':Nat}{A':Option Addr}{xs':List Value}(h:Bd w base e z A n c xs)(h':Bd w base' e' z' A' n' c' xs')(hne:e≠e')(k:Nat)(hk:(Ak A n c).ownBlock=some k):(Ak A' n' c').ownBlock≠some k:=by
 intro hk';rcases h.2 with⟨hv,_⟩|⟨g,cap,cur,hv,_,hg,_⟩
 ·injection hv with hA _ _
  subst hA;cases hk
 rcases h'.2 with⟨hv',_⟩|⟨g',cap',cur',hv',_,hg',_⟩
 ·injection hv' with hA _ _
  subst hA;cases hk'
 injection hv with hA _ _;subst hA;injection hv' with hA _ _;subst hA;injection hk with hk;injection hk' with hk';have:g=g':=by
  have h1:g=k:=hk;have h2:g'=k:=hk';omega
 subst this;rw[hg]at hg';injection hg' with hg';injection hg' with _ h1;exact hne h1
end
end
