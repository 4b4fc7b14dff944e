/-
  Part ZBase.
-/
import Derived.Test.YtiahhfglhlgfiaaGreatZFb
import Derived.Test.YtiahhfglhlgfiaaGreatRows
import Derived.WalkKit
import Derived.ProofKit
import Derived.OpenShut
import Derived.WalkLawsBesides
import Derived.WalkSpells
import Derived.Below
import Derived.Laws.OwnMore
import Derived.Deep.AppendLies
import Derived.Deep.Draws
import Derived.Laws.Rows
import Derived.Maps.AppendAt
import Derived.RegionTactic
import Derived.OwnWalk
import Derived.ChangeSame
import Derived.Deep.QuietTactic
import Derived.BigQuiet
import Derived.Lib.Hide
import Derived.Deep.OwnRows
set_option maxRecDepth 100000
set_option maxHeartbeats 16000000
set_option linter.unusedVariables false
set_option linter.unusedSimpArgs false
namespace Go.Proofs.YtiahhfglhlgfiaaGreat
open Go.RowKit
open _root_.List renaming cons_append→J0b,getElem?_cons_succ→Af,getElem?_cons_zero→Ae,getElem?_take→Mg,getElem?_toArray→Ag,take_of_length_le→Bj,take_succ_eq_append_getElem→wV
open _root_.Nat renaming eq_zero_or_pos→Bk,le_refl→Ai,le_trans→Ap,lt_or_ge→At,zero_le→Aw
open Value renaming int→Aq,slice→Aj
open Region renaming wanted→Bm
section
variable {l p s m l':List Int}{w x w':World}{A B:Option Addr}{Q:Exit→Act→World→Prop}{big:Bool}{n c i k j b:Nat}{K:Act→World→Prop}{P:Program}{ops:Array Oper}{v:Value}{a:Act}{o:Oper}{E:Prop}{args:Array Value}{kind:Int}
theorem A4 {p:Prop}(h:p):Go.RowKit.Hid p:=h
open Go.RowKit Go.WideShapes Go.ChangeShapes
def Al (w w':World):Prop:=Below w.heap.size w w'
theorem Al.refl (w:World):Al w w:=Below.refl _ _
theorem Al.trans {a b c:World}(h:Al a b)(k:Al b c):Al a c:=Below.trans h (Below.mono k h.size)
theorem Al.drew (w:World):Al w w.drew:=(Below.refl _ _).drew
theorem Al.drewN (w:World)(n:Nat):Al w (w.drewN n):=⟨rfl,rfl,rfl,Ai _,fun _ _=>rfl⟩
theorem Al.alloc (w:World)(o:Obj):Al w (w.alloc o):=(Below.refl _ _).alloc (Ai _) o
theorem Al.setCell (h:Al w x){p:Addr}(hp:w.heap.size≤p.block)(u:Value):Al w (x.setCell p u):=Below.setCell h hp u
theorem Al.to_drewN (h:Al w x)(n:Nat):Al w (x.drewN n):=h.trans (Al.drewN _ _)
theorem Al.to_drew (h:Al w x):Al w x.drew:=h.trans (Al.drew _)
theorem Al.to_alloc (h:Al w x)(o:Obj):Al w (x.alloc o):=h.trans (Al.alloc _ _)
theorem Al.hsize (h:Al w w'):w.heap.size≤w'.heap.size:=h.size
theorem Al.cell (h:Al w w'){p:Addr}(hc:w.cell? p=some v):w'.cell? p=some v:=
 (Below.cell h (World.block_lt_of_cell? w p hc)).trans hc
theorem No (w:World)(a b:Nat):(w.drewN a).drewN b=w.drewN (a+b):=World.drewN_drewN w a b
theorem cA {f:FuncId}(h:Calls P f args (w.drewN n) fun e w'=>e=.returned v∧∃k,w'=(w.drewN n).drewN k):
 Calls P f args (w.drewN n) fun e w''=>e=.returned v∧∃m,w''=w.drewN m:=
 h.mono fun _ _ ⟨he,k,hk⟩=>⟨he,n+k,by rw[hk];exact No _ _ _⟩
theorem Fm {a b:Bool}(h:a=b):Ending.returned (.bool a)=.returned (.bool b):=by rw[h]
theorem Hj {k:IntKind}{a b:Int}(h:a=b):Ending.returned (.int k a)=.returned (.int k b):=by rw[h]
structure Nz (w0:World) where
 w:World
 h:Al w0 w
theorem Nr {id:Nat}{l:List Oper}(hm:P.follows .mixedOrders=true)(hB:Region.lexB .any l.toArray=true)
 (h:wpQuiet P l.toArray (fun w'=>∃i:Nz w,w'=i.w) (fun a'=>∀w',(∃i:Nz w,w'=i.w)→Q .normal a' w') l a):(Code.region id l.toArray true).wp P Q a w:=
 wp_region_quiet (C:=fun w'=>∃i:Nz w,w'=i.w) hm hB ⟨⟨w.drew,Al.drew w⟩,rfl⟩ (by simpa using h)
theorem Qg {f:FuncId}{i:Nz w}(h:Calls P f args i.w fun e w'=>e=.returned v∧Al i.w w'):
 Calls P f args i.w fun e w''=>e=.returned v∧∃j:Nz w,w''=j.w:=
 h.mono fun _ w'' ⟨he,hx⟩=>⟨he,⟨w'',i.h.trans hx⟩,rfl⟩
theorem Nz.cell {w0:World}(i:Nz w0){p:Addr}(h:w0.cell? p=some v):i.w.cell? p=some v:=i.h.cell h
theorem Kj (a:Addr)(i j:Nat):(a.add i).add j=a.add (i+j):=by
 unfold Addr.add;by_cases hi:i=0<;>by_cases hj:j=0<;>simp[hi,hj,Nat.add_assoc]
theorem Dw (a:Addr):a.add 0=a:=by unfold Addr.add;simp
def Rd (w:World)(z:Nat)(A:Option Addr)(n c:Nat)(xs:List Value):Prop:=
 xs.length=n*z∧n≤c∧c≤maxLen∧(0<n→∃ad,A=some ad∧∀j u,xs[j]? = some u→w.cell? (ad.add j)=some u)
section
variable {w w':World} {z n c:Nat} {A:Option Addr} {xs:List Value}
theorem Rd.len (h:Rd w z A n c xs):xs.length=n*z:=h.1
theorem Rd.ncap (h:Rd w z A n c xs):n≤c:=h.2.1
theorem Rd.nmax (h:Rd w z A n c xs):c≤maxLen:=h.2.2.1
theorem Rd.ext (h:Rd w z A n c xs)(he:Al w w'):Rd w' z A n c xs:=by
 obtain⟨h1,h2,h3,h4⟩:=h;refine⟨h1,h2,h3,fun hn=>?_⟩
 obtain⟨ad,e,hc⟩:=h4 hn;exact⟨ad,e,fun j u hu=>he.cell (hc j u hu)⟩
theorem Rd.keep (h:Rd w z A n c xs)(hk:∀p u,w.cell? p=some u→w'.cell? p=some u):Rd w' z A n c xs:=by
 obtain⟨h1,h2,h3,h4⟩:=h;refine⟨h1,h2,h3,fun hn=>?_⟩
 obtain⟨ad,e,hc⟩:=h4 hn;exact⟨ad,e,fun j u hu=>hk _ _ (hc j u hu)⟩
theorem Rd.at_ (h:Rd w z A n c xs){k:Nat}(hk:k<n):∃ad,A=some ad∧∀j u,xs[j]? = some u→w.cell? (ad.add j)=some u:=h.2.2.2 (by omega)
theorem Rd.none_ (w:World)(z:Nat):Rd w z none 0 0 []:=⟨by simp,Ai _,Nat.zero_le _,fun h=>absurd h (by omega)⟩
theorem Rd.cut (h:Rd w z A n c xs){k m:Nat}(hk:k≤m)(hm:m≤n):
 Rd w z (if c=k then A else A.map (·.add (k*z))) (m-k) (c-k) ((xs.drop (k*z)).take ((m-k)*z)):=by
 obtain⟨h1,h2,h3,h4⟩:=h;refine⟨?_,by omega,by omega,fun hn=>?_⟩
 ·rw[List.length_take,List.length_drop,h1,←Nat.sub_mul]
  exact Nat.min_eq_left (Nat.mul_le_mul_right _ (by omega))
 ·obtain⟨ad,rfl,hc⟩:=h4 (by omega)
  rw[if_neg (by omega)]
  refine⟨ad.add (k*z),rfl,fun j u hu=>?_⟩
  rw[Kj];refine hc _ u ?_
  rw[Mg]at hu;split at hu
  ·rw[←hu,List.getElem?_drop]
  ·cases hu
end
def gI (l:List Int)(k:Nat):Int:=l[k]?.getD 0
def Bi (w:World)(A:Option Addr)(n c:Nat)(l:List Int):Prop:=Rd w 1 A n c (l.map (Aq .i64))
theorem Bi.len (h:Bi w A n c l):l.length=n:=by
 have:=Rd.len h;simpa using this
theorem Bi.ext (h:Bi w A n c l)(he:Al w w'):Bi w' A n c l:=Rd.ext h he
theorem Bi.at_ (h:Bi w A n c l)(hk:k<n):
 ∃ad,A=some ad∧∀j,j<n→w.cell? (ad.add j)=some (.int .i64 (gI l j)):=by
 obtain⟨ad,e,hc⟩:=Rd.at_ h hk;refine⟨ad,e,fun j hj=>hc j _ ?_⟩
 have hl:=h.len;simp[gI,show j<l.length by omega]
theorem Bi.cut (h:Bi w A n c l){k m:Nat}(hk:k≤m)(hm:m≤n):
 Bi w (if c=k then A else A.map (·.add k)) (m-k) (c-k) ((l.drop k).take (m-k)):=by
 have:=Rd.cut h hk hm;unfold Bi;rw[List.map_take,List.map_drop]
 simpa using this
theorem Bi.front (h:Bi w A n c l)(hk:k≤n):Bi w A k c (l.take k):=by
 have h1:=h.len;have h2:=Rd.ncap h;refine⟨by simp;omega,by omega,Rd.nmax h,fun hn=>?_⟩
 obtain⟨ad,e,hc⟩:=Rd.at_ h (k:=0) (by omega)
 refine⟨ad,e,fun j u hu=>hc j u ?_⟩
 rw[List.map_take,Mg]at hu;split at hu
 ·exact hu
 ·cases hu
theorem Bi.back {a:Addr}(h:Bi w (some a) n c l)(hk:k≤n):Bi w (some (a.add k)) (n-k) (c-k) (l.drop k):=by
 have h1:=h.len;have h2:=Rd.ncap h;have h3:=Rd.nmax h;refine⟨by simp;omega,by omega,by omega,fun hn=>⟨_,rfl,fun j u hu=>?_⟩⟩
 obtain⟨ad,e,hc⟩:=Rd.at_ h (k:=0) (by omega)
 injection e with e;subst e;rw[Kj];refine hc _ u ?_
 rw[←hu,List.map_drop,List.getElem?_drop]
theorem Bi.none_ (w:World):Bi w none 0 0 []:=Rd.none_ w 1
theorem Bi.ncap (h:Bi w A n c l):n≤c:=Rd.ncap h
theorem Bi.nmax (h:Bi w A n c l):c≤maxLen:=Rd.nmax h
theorem Bi.one (_:Bi w A n c l):∀u∈l.map (Aq .i64),u.oneCell'=true:=ints_oneCell _ _
def Ay (w:World)(base e z:Nat)(A:Option Addr)(n c:Nat)(xs:List Value):Prop:=w.ownsRow base e z (.slice A n c) n xs
def Av (w:World)(base:Nat)(A:Option Addr)(n c:Nat)(l:List Int):Prop:=Ay w base 3 1 A n c (l.map (Aq .i64))
section
variable {w w':World} {base e z n c:Nat} {A:Option Addr} {xs:List Value} {l:List Int}
theorem Ay.rd (h:Ay w base e z A n c xs):Rd w z A n c xs:=by
 obtain⟨h1,h2⟩:=h;rcases h2 with⟨hv,rfl⟩|⟨g,cap,cur,hv,hb,hg,hn,hcap,hcur,htake⟩
 ·injection hv with hA _ hc
  subst hA;subst hc;obtain rfl:xs=[]:=List.eq_nil_of_length_eq_zero (by simpa using h1)
  exact Rd.none_ w z
 ·injection hv with hA _ hc
  subst hA;subst hc;refine⟨h1,hn,hcap,fun _=>⟨_,rfl,?_⟩⟩
  have hown:w.ownsRow base e z (.slice (some ⟨g,0,none⟩) n c) n xs:=⟨h1,.inr ⟨g,c,cur,rfl,hb,hg,hn,hcap,hcur,htake⟩⟩;exact hown.cells (g:=g) rfl
theorem Av.ints (h:Av w base A n c l):Bi w A n c l:=Ay.rd h
theorem Ay.nil (w:World)(base e z:Nat):Ay w base e z none 0 0 []:=World.ownsRow_nil w base e z
theorem Av.nil (w:World)(base:Nat):Av w base none 0 0 []:=World.ownsRow_nil w base _ _
theorem Ay.ext (h:Ay w base e z A n c xs)(he:Al w w'):Ay w' base e z A n c xs:=by
 obtain⟨h1,h2⟩:=h;refine⟨h1,?_⟩
 rcases h2 with h2|⟨g,cap,cur,hv,hb,hg,r⟩
 ·exact .inl h2
 ·exact .inr ⟨g,cap,cur,hv,hb,(Below.block he g (Array.getElem?_eq_some_iff.1 hg).1).trans hg,r⟩
theorem Av.ext (h:Av w base A n c l)(he:Al w w'):Av w' base A n c l:=Ay.ext h he
theorem Ay.lower {base':Nat}(h:Ay w base e z A n c xs)(hb:base'≤base):Ay w base' e z A n c xs:=by
 obtain⟨h1,h2⟩:=h;refine⟨h1,?_⟩
 rcases h2 with h2|⟨g,cap,cur,hv,hbb,r⟩
 ·exact .inl h2
 ·exact .inr ⟨g,cap,cur,hv,Ap hb hbb,r⟩
theorem Ay.len (h:Ay w base e z A n c xs):xs.length=n*z:=h.1
end
section
variable {w w':World} {base e z n c:Nat} {A:Option Addr} {xs:List Value}
theorem Ay.pop {k:Nat}(h:Ay w base e 1 A n c xs)(hk:k≤n)(hn:0<n):Ay w base e 1 A k c (xs.take k):=by
 obtain⟨h1,h2⟩:=h;rcases h2 with⟨_,h0⟩|⟨g,cap,cur,hv,hb,hg,hnc,hcap,hcur,ht⟩
 ·omega
 ·injection hv with hA _ hc
  subst hA;subst hc;refine⟨by simp;omega,.inr ⟨g,c,cur,rfl,hb,hg,by omega,hcap,hcur,?_⟩⟩
  rw[←ht,List.take_take]
  congr 1
  omega
theorem Ay.kept (h:Ay w base e z A n c xs){row:Option Nat}(hg:w.grownBy w' row)(hne:(Aj A n c).ownBlock=none∨(Aj A n c).ownBlock≠row):Ay w' base e z A n c xs:=
 World.ownsRow.kept h hg hne
theorem Ay.setCell (h:Ay w base e z A n c xs){p:Addr}(hp:p.block<base)(u:Value):Ay (w.setCell p u) base e z A n c xs:=ownsRow_setCell_below h hp u
theorem Ay.blk (h:Ay w base e z A n c xs):∀g,(Aj A n c).ownBlock=some g→base≤g∧g<w.heap.size:=World.ownsRow.lt h
end
theorem Al.grown {w0 w w':World}{base e z n:Nat}{xs:List Value}(h:Al w0 w)(hg:w.grownBy w' v.ownBlock)(hown:w.ownsRow base e z v n xs)(hb:w0.heap.size≤base):Al w0 w':=
 Below.grown h hg h.size (fun k hk=>Ap hb (hown.lt k hk).1)
def An (w:World)(g:Nat)(t:TypeId)(cs:Array Value):Prop:=w.heap[g]? = some (.cells cs t (0,0))
section
variable {w w':World} {g:Nat} {t:TypeId} {cs:Array Value}
theorem An.lt (h:An w g t cs):g<w.heap.size:=by
 rcases Nat.lt_or_ge g w.heap.size with hlt|hge
 ·exact hlt
 ·unfold An at h;rw[Array.getElem?_eq_none hge]at h;cases h
theorem An.cell (h:An w g t cs)(i:Nat):w.cell? ⟨g,i,none⟩=cs[i]? := cell_of_row w g i cs t (0,0) h
theorem An.frozen (h:An w g t cs)(i:Nat):w.frozen? ⟨g,i,none⟩=false:=by
 unfold An at h;simp[World.frozen?,h]
theorem An.new (w:World)(t:TypeId)(cs:Array Value):An (w.alloc (.cells cs t)) w.heap.size t cs:=heap_alloc_new w _
theorem An.ext (h:An w g t cs)(he:Al w w'):An w' g t cs:=(Below.block he g h.lt).trans h
theorem An.grown (h:An w g t cs){row:Option Nat}(hb:w.grownBy w' row)(hg:some g≠row):An w' g t cs:=(hb.block g h.lt hg).trans h
theorem An.drewN (h:An w g t cs)(n:Nat):An (w.drewN n) g t cs:=h
theorem An.set_ (h:An w g t cs)(i:Nat)(u:Value):An (w.setCell ⟨g,i,none⟩ u) g t (cs.setIfInBounds i u):=by
 unfold An at h ⊢;simp[World.setCell,Array.getElem?_modify,h]
end
theorem An.ints {g:Nat}{t:TypeId}(h:An w g t (l.map (Aq .i64)).toArray)(hn:n=l.length)(hm:n≤maxLen):
 Bi w (some ⟨g,0,none⟩) n n l:=by
 subst hn;refine⟨by simp,Ai _,hm,fun _=>⟨_,rfl,fun j u hu=>?_⟩⟩
 have:(⟨g,0,none⟩:Addr).add j=⟨g,j,none⟩:=by simp[Addr.add_lit]
 rw[this,h.cell j]
 simpa using hu
theorem U4 {g t:Nat}(h:An w g t (l.map (Aq .i64)).toArray)(hk:k<l.length):w.cell? ⟨g,k,none⟩=some (.int .i64 (gI l k)):=by
 rw[h.cell k];simp[gI,hk]
theorem Rm {g t:Nat}(h:An w g t (l.map (Aq .i64)).toArray)(k:Nat)(u:Int):An (w.setCell ⟨g,k,none⟩ (.int .i64 u)) g t ((l.set k u).map (Aq .i64)).toArray:=by
 have:=h.set_ k (.int .i64 u);rw[List.map_set,←List.setIfInBounds_toArray];exact this
theorem Rh (n:Nat):madeCells (Aq .i64 0).cells n=((List.replicate n (0:Int)).map (Aq .i64)).toArray:=by
 apply Array.ext
 ·simp[size_madeCells]
 ·intro i h1 h2
  simp[madeCells,Value.cells,Nat.mod_one]
section
variable {P:Program} {ops:Array Oper} {rest:List Oper} {o:Oper} {a:Act} {Q:Exit→Act→World→Prop}
theorem Fn {w:World}(hgd:o.guard=none)(s x:Operand)(t:TypeId)
 (ho:o.op=.call { callee:=.builtin .append,args:=#[s,x],argTypes:=#[t,t] })
 (w0:World) (base e:Nat) (i:TypeInfo) (zv:Value) (z bytes:Nat) (ht:P.underlying t=some (.slice e)) (hi:P.info? e=some i) (hz:i.zero=some zv)
 (hsize:i.size=z) (hby:i.bytes=bytes) (hzs:zv.cells.size=z) (hsz:0<z)
 (A:Option Addr) (n c:Nat) (xs:List Value) (hs:a.eval s=.slice A n c) (hown:Ay w base e z A n c xs)
 (B:Option Addr) (m d:Nat) (news:List Value) (hx:a.eval x=.slice B m d) (hr:Rd w z B m d news) (h1:∀u∈news,u.oneCell'=true)
 (h63:n+m≤maxLen) (hbytes:(n+m)*bytes≤140737488355328) (he:Al w0 w) (hb:w0.heap.size≤base) (hbase:base≤w.heap.size)
 (h:∀A' c' w',Ay w' base e z A' (n+m) c' (xs++news)→w.grownBy w' (Aj A n c).ownBlock→((Aj A' (n+m) c').ownBlock=(Aj A n c).ownBlock∨(Aj A' (n+m) c').ownBlock=some w.heap.size)→Al w0 w'→
  wpList P ops Q rest (a.put o.dst (.slice A' (n+m) c')) w'):wpList P ops Q (o::rest) a w:=by
 have N1:=trivial;exact zT
theorem Qo {w w':World}(hgd:o.guard=none)(s x:Operand)(t t':TypeId)
 (ho:o.op=.call { callee:=.builtin .append,args:=#[s,x],argTypes:=#[t,t'] }) (u v r:Value) (hs:a.eval s=u) (hx:a.eval x=v)
 (hrun:(Builtin.append_ #[t,t'] o.type #[u,v]).run P w=.ok r w') (h:wpList P ops Q rest (a.put o.dst r) w'):wpList P ops Q (o::rest) a w:=by
 refine wpList_plain hgd fun K hK=>?_
 unfold Oper.wp execOp;simp only[ho,resolve,invoke,builtin,Sem.run_bind,Sem.run_pure,Result.andThen_ok,List.map_toArray,List.map_cons,List.map_nil,hs,hx,hrun];exact hK _ _ h
theorem Ci {w1:World}(hgd:o.guard=none)(s x:Operand)(t:TypeId)
 (ho:o.op=.call { callee:=.builtin .append,args:=#[s,x],argTypes:=#[t,t] })
 (w0:World) (base e:Nat) (i:TypeInfo) (zv:Value) (z bytes:Nat) (ht:P.underlying t=some (.slice e)) (hi:P.info? e=some i) (hz:i.zero=some zv)
 (hsize:i.size=z) (hby:i.bytes=bytes) (hzs:zv.cells.size=z) (hsz:0<z)
 (A:Option Addr) (n c:Nat) (xs:List Value) (hs:a.eval s=.slice A n c) (hown:Ay w1 base e z A n c xs)
 (us:Array Value) (hu:us.size=z) (h1:∀u∈us.toList,u.oneCell'=true) (hx:a.eval x=.slice (some ⟨w1.heap.size,0,none⟩) 1 1)
 (h63:n+1≤maxLen) (hbytes:(n+1)*bytes≤140737488355328) (he:Al w0 w1) (hb:w0.heap.size≤base) (hbase:base≤w1.heap.size)
 (h:∀A' c' w',Ay w' base e z A' (n+1) c' (xs++us.toList)→w1.grownBy w' (Aj A n c).ownBlock→((Aj A' (n+1) c').ownBlock=(Aj A n c).ownBlock∨∃g,w1.heap.size≤g∧(Aj A' (n+1) c').ownBlock=some g)→Al w0 w'→
  wpList P ops Q rest (a.put o.dst (.slice A' (n+1) c')) w'):wpList P ops Q (o::rest) a (w1.alloc (.cells us e)):=by
 have N0:=trivial;exact zD
end
theorem Bz:(Tryz.prog.info? 3).map (fun i=>(i.zero,i.size,i.bytes))=some (some (.int .i64 0),1,8):=by kernel_rfl
def V6 (l m:List Int):Bool:=decide (l=m)
theorem Lf:V6 l m=true↔l=m:=by simp[V6]
theorem Wf:V6 l m=false↔l≠m:=by simp[V6]
theorem Xt {n k:Nat}(hl:l.length=n)(hm:m.length=n)(hk:k<n)(h:l.take k=m.take k)(he:gI l k=gI m k):l.take (k+1)=m.take (k+1):=by
 have h1:k<l.length:=by omega
 have h2:k<m.length:=by omega
 rw[wV h1,wV h2,h];simp[gI,h1,h2]at he;rw[he]
theorem Zs (hl:l.length=n)(hm:m.length=n)(h:l.take n=m.take n):l=m:=by
 rwa[Bj (by omega),Bj (by omega)]at h
theorem Q6 (hgd:o.guard=none)(s x:Operand)(t:TypeId)
 (ho:o.op=.call { callee:=.builtin .append,args:=#[s,x],argTypes:=#[t,t] })
 (w0:World) (base e:Nat) (i:TypeInfo) (zv:Value) (z bytes:Nat) (ht:P.underlying t=some (.slice e)) (hi:P.info? e=some i) (hz:i.zero=some zv)
 (hsize:i.size=z) (hby:i.bytes=bytes) (hzs:zv.cells.size=z) (hsz:0<z)
 (A:Option Addr) (n c:Nat) (xs:List Value) (hs:a.eval s=.slice A n c) (hown:Ay w base e z A n c xs)
 (B:Option Addr) (m d:Nat) (news:List Value) (hx:a.eval x=.slice B m d) (hr:Rd w z B m d news) (h1:∀u∈news,u.oneCell'=true)
 (h63:n+m≤maxLen) (hbytes:(n+m)*bytes≤140737488355328) (he:Al w0 w) (hb:w0.heap.size≤base) (hbase:base≤w.heap.size)
 (h:∀A' c' w',Ay w' base e z A' (n+m) c' (xs++news)→w.grownBy w' (Aj A n c).ownBlock→((Aj A' (n+m) c').ownBlock=(Aj A n c).ownBlock∨(Aj A' (n+m) c').ownBlock=some w.heap.size)→Al w0 w'→
  K (a.put o.dst (.slice A' (n+m) c')) w'):if Bm o (yielded ops a.tmps)=true then Oper.wp P o a w K Q else E:=by
 have N0:=trivial;exact zT
theorem J1 (hgd:o.guard=none)
 (f:FuncId) (args:Array Value) (hrun:(execOp a.eval o).run P w=.ok (.enter f args) w) (R:Value→World→Prop)
 (hc:Calls P f args w fun e w'=>∃v,e=.returned v∧R v w') (h:∀v w',R v w'→K (a.put o.dst v) w'):if Bm o (yielded ops a.tmps)=true then Oper.wp P o a w K Q else E:=by
 have hw:Bm o (yielded ops a.tmps)=true:=by simp[Bm,hgd]
 rw[if_pos hw];exact I16
theorem Mn {w1:World}(hgd:o.guard=none)(s x:Operand)(t:TypeId)
 (ho:o.op=.call { callee:=.builtin .append,args:=#[s,x],argTypes:=#[t,t] })
 (w0:World) (base e:Nat) (i:TypeInfo) (zv:Value) (z bytes:Nat) (ht:P.underlying t=some (.slice e)) (hi:P.info? e=some i) (hz:i.zero=some zv)
 (hsize:i.size=z) (hby:i.bytes=bytes) (hzs:zv.cells.size=z) (hsz:0<z)
 (A:Option Addr) (n c:Nat) (xs:List Value) (hs:a.eval s=.slice A n c) (hown:Ay w1 base e z A n c xs)
 (us:Array Value) (hu:us.size=z) (h1:∀u∈us.toList,u.oneCell'=true) (hx:a.eval x=.slice (some ⟨w1.heap.size,0,none⟩) 1 1)
 (h63:n+1≤maxLen) (hbytes:(n+1)*bytes≤140737488355328) (he:Al w0 w1) (hb:w0.heap.size≤base) (hbase:base≤w1.heap.size)
 (h:∀A' c' w',Ay w' base e z A' (n+1) c' (xs++us.toList)→w1.grownBy w' (Aj A n c).ownBlock→((Aj A' (n+1) c').ownBlock=(Aj A n c).ownBlock∨∃g,w1.heap.size≤g∧(Aj A' (n+1) c').ownBlock=some g)→Al w0 w'→
  K (a.put o.dst (.slice A' (n+1) c')) w'):if Bm o (yielded ops a.tmps)=true then Oper.wp P o a (w1.alloc (.cells us e)) K Q else E:=by
 have N1:=trivial;exact zD
theorem Bs {ars:Array Operand}{tys:Array TypeId}(hgd:o.guard=none)
 (f:FuncId) (args:Array Value) (ho:o.op=.call { callee:=.value (.func f),args:=ars,argTypes:=tys }) (hrun:(execOp a.eval o).run P w=.ok (.enter f args) w) (R:Value→World→Prop)
 (hc:Calls P f args w fun e w'=>∃v,e=.returned v∧R v w') (h:∀v w',R v w'→K (a.put o.dst v) w'):if Bm o (yielded ops a.tmps)=true then Oper.wp P o a w K Q else E:=by
 have hw:Bm o (yielded ops a.tmps)=true:=by simp[Bm,hgd]
 rw[if_pos hw];exact I16
theorem Zd {n c m d:Nat}(hl:Bi w A n c l)(hl':Bi w B m d l'):
 Calls Tryz.prog 9 #[.slice A n c,.slice B m d] w fun e w'=>e=.returned (.bool (V6 l l'))∧∃k,w'=w.drewN k:=by
 have h1:=hl.ncap;have h2:=hl.nmax;have h3:=hl'.ncap;have h4:=hl'.nmax;have e1:=A4 hl.len;have e2:=A4 hl'.len;unfold maxLen at h2 h4;by_cases hnm:n=m
 ·subst hnm
  have hne:((n:Int) !=(n:Int))=false:=by simp
  go_enter Tryz.func9,Tryz.ntmps9
  go_wp2_with fail
  go_loopw [13] (fun i wr=>∃k:Nat,k≤n∧i=.int .i64 k∧Hid (l.take k=l'.take k)∧∃q,wr=w.drewN q) (fun i _=>n-(intOf i).toNat)
  case atStart=>exact⟨0,by omega,rfl,rfl,0,rfl⟩
  case round=>
   obtain⟨k,hk,rfl,ht,q,rfl⟩:=hrel;by_cases hlt:k<n
   ·obtain⟨a1,rfl,hc1⟩:=hl.at_ hlt
    obtain⟨a2,rfl,hc2⟩:=hl'.at_ hlt;have c1:=hc1 k hlt;have c2:=hc2 k hlt;clear hc1 hc2;by_cases heq:gI l k=gI l' k
    ·have b1:(gI l k !=gI l' k)=false:=by simpa using heq
     have HN:=A4 heq;clear heq;go_wp2_with fail
     go_quiet (fail)
     go_wp2_with fail
     go_roundw
     case rel=>exact⟨k+1,by omega,by go_num,Xt e1.out e2.out hlt ht.out HN.out,q+nq,rfl⟩
     case measure=>simp[intOf];omega
    ·have b1:(gI l k !=gI l' k)=true:=by simpa using heq
     have HN:=A4 heq;clear heq;go_wp2_with fail
     go_quiet (fail)
     go_wp2_with fail
     go_ret
     exact⟨Fm (Wf.2 (fun e=>HN.out (by rw[e]))).symm,_,No _ _ _⟩
   ·obtain rfl:k=n:=by omega
    go_wp2_with fail
    go_ret
    exact⟨Fm (Lf.2 (Zs e1.out e2.out ht.out)).symm,_,rfl⟩
 ·have hne:((n:Int) !=(m:Int))=true:=by simp;omega
  have hf:V6 l l'=false:=Wf.2 (fun e=>hnm (by rw[←e1.out,←e2.out,e]))
  go_enter Tryz.func9,Tryz.ntmps9
  go_wp2_with fail
  go_ret
  exact⟨Fm hf.symm,0,rfl⟩
theorem J4 {n c m d:Nat}(hl:Bi w A n c l)(hl':Bi w B m d l'):
 Calls Tryz.prog 9 #[.slice A n c,.slice B m d] w fun e w'=>e=.returned (.bool (V6 l l'))∧Al w w':=
 (Zd hl hl').mono fun e w' ⟨h1,k,h2⟩=>⟨h1,by rw[h2];exact Al.drewN _ _⟩
def Sj (l:List Int)(m k:Nat):Prop:=k<m∧∀j,j<k→gI l j=gI l (m-k+j)
instance (l:List Int)(m k:Nat):Decidable (Sj l m k):=by unfold Sj;exact inferInstance
theorem Zi {m:Nat}(h:0<m):Sj l m 0:=⟨h,fun _ h=>absurd h (by omega)⟩
def T7 (l:List Int)(m:Nat):Nat→Nat
 |0=>0
 |k+1=>if Sj l m (k+1)then k+1 else T7 l m k
def bl (l:List Int)(m:Nat):Nat:=T7 l m (m-1)
theorem jZ {m:Nat}(hm:0<m)(k:Nat):Sj l m (T7 l m k):=by
 induction k with
 |zero=>exact Zi hm
 |succ k ih=>unfold T7;split<;>assumption
theorem jY {m:Nat}(k:Nat){j:Nat}(hj:Sj l m j)(hk:j≤k):j≤T7 l m k:=by
 induction k with
 |zero=>simp[T7];omega
 |succ k ih=>
  unfold T7;split
  ·exact hk
  ·rename_i hn
   rcases At k j with h|h
   ·obtain rfl:j=k+1:=by omega
    exact absurd hj hn
   ·exact ih h
theorem Qy {l:List Int}{m:Nat}(hm:0<m):Sj l m (bl l m):=jZ hm _
theorem Tc {m j:Nat}(hj:Sj l m j):j≤bl l m:=jY _ hj (by have:=hj.1;omega)
theorem Vd {l:List Int}{m:Nat}(hm:0<m):bl l m<m:=(Qy hm).1
theorem tL {m k:Nat}(hk:Sj l m k)(hmax:∀j,Sj l m j→j≤k):bl l m=k:=
 Nat.le_antisymm (hmax _ (Qy (by have:=hk.1;omega))) (Tc hk)
theorem jS (h:Sj l i k)(h':Sj l k j):Sj l i j:=by
 refine⟨by have:=h.1;have:=h'.1;omega,fun t ht=>?_⟩
 have h1:=h'.1;exact I116
theorem dV (h:Sj l i k)(h':Sj l i j)(hlt:j<k):Sj l k j:=by
 refine⟨hlt,fun t ht=>?_⟩
 exact I116
theorem U3 (h:Sj l (i+1) (k+1)):Sj l i k∧gI l k=gI l i:=by
 refine⟨⟨by have:=h.1;omega,fun t ht=>?_⟩,?_⟩
 ·rw[h.2 t (by omega)];congr 1;omega
 ·have:=h.1
  rw[h.2 k (by omega)];congr 1;omega
theorem oY (h:Sj l i k)(he:gI l k=gI l i):Sj l (i+1) (k+1):=by
 refine⟨by have:=h.1;omega,fun t ht=>?_⟩
 have:=h.1;rcases At t k with h1|h1
 ·rw[h.2 t h1];congr 1;omega
 ·obtain rfl:t=k:=by omega
  rw[he];congr 1;omega
def fK (l:List Int)(i k:Nat):Prop:=Sj l i k∧∀j,Sj l (i+1) (j+1)→j≤k
theorem dQ (hi:0<i):fK l i (bl l i):=⟨Qy hi,fun _ h=>Tc (U3 h).1⟩
theorem jO (h:fK l i k)(hk:0<k)(hne:gI l k≠gI l i):fK l i (bl l k):=by
 refine⟨jS h.1 (Qy hk),fun j hj=>?_⟩
 have h1:=h.2 j hj;obtain⟨h2,h3⟩:=U3 hj;have:j≠k:=fun e=>hne (by rw[←e];exact h3)
 exact Tc (dV h.1 h2 (by omega))
theorem Qi (h:fK l i k)(he:gI l k=gI l i):bl l (i+1)=k+1:=
 tL (oY h.1 he) fun j hj=>by
  rcases j with _|j
  ·omega
  ·have:=h.2 j hj;omega
theorem Wo (h:fK l i 0)(hne:gI l 0≠gI l i):bl l (i+1)=0:=
 tL (Zi (by omega)) fun j hj=>by
  rcases j with _|j
  ·omega
  ·have:=h.2 j hj
   obtain rfl:j=0:=by omega
   exact absurd (U3 hj).2 hne
def Pv (l:List Int):List Int:=(List.range l.length).map fun i=>(bl l (i+1):Int)
def Kn (l:List Int)(i:Nat):List Int:=(List.range l.length).map fun j=>if j<i then(bl l (j+1):Int)else 0
theorem oV (l:List Int)(i:Nat):(Kn l i).length=l.length:=by simp[Kn]
theorem lG (l:List Int):bl l 1=0:=by have:=@Vd l 1 (by omega);omega
theorem dS (l:List Int):Kn l 1=List.replicate l.length 0:=by
 apply List.ext_getElem
 ·simp[Kn]
 ·intro j h1 h2
  simp[Kn];intro h;obtain rfl:j=0:=by omega
  simp[lG]
theorem oX (l:List Int)(h:l.length≤i):Kn l i=Pv l:=by
 apply List.ext_getElem
 ·simp[Kn,Pv]
 ·intro j h1 h2
  simp[Kn,Pv]at h1 ⊢;omega
theorem oU (l:List Int):(Kn l i).set i (bl l (i+1))=Kn l (i+1):=by
 apply List.ext_getElem
 ·simp[Kn]
 ·intro j h1 h2
  rw[List.getElem_set];simp[Kn];split
  ·rename_i e;subst e;simp
  ·rename_i hne;by_cases hj:j<i
   ·rw[if_pos hj,if_pos (by omega)]
   ·rw[if_neg hj,if_neg (by omega)]
theorem oW (l:List Int)(h:k<i)(hi:i≤l.length)(hk:0<k):gI (Kn l i) (k-1)=(bl l k:Int):=by
 have:k-1<l.length:=by omega
 simp[gI,Kn,this];rw[if_pos (by omega),show k-1+1=k by omega]
theorem Wq (l:List Int)(hi:k≤l.length)(hk:0<k):gI (Pv l) (k-1)=(bl l k:Int):=by
 have:k-1<l.length:=by omega
 simp[gI,Pv,this];rw[show k-1+1=k by omega]
theorem Wp (l:List Int){i j:Nat}(h:j<l.length):((Kn l i).map (Aq .i64)).toArray[j]? = some (.int .i64 (gI (Kn l i) j)):=by
 have:j<(Kn l i).length:=by rw[oV];exact h
 simp[gI,this]
theorem Pe {g j:Nat}{t:TypeId}{u:Int}(h:An w g t ((Kn l j).map (Aq .i64)).toArray)(hu:u=(bl l (j+1):Int)):
 An (w.setCell ⟨g,j,none⟩ (.int .i64 u)) g t ((Kn l (j+1)).map (Aq .i64)).toArray:=by
 have:=h.set_ j (.int .i64 u);rw[←oU,←hu,List.map_set,←List.setIfInBounds_toArray];exact this
theorem jU (l:List Int):(Pv l).length=l.length:=by simp[Pv]
theorem Uz:(Tryz.prog.info? 3).map (fun i=>(i.zero,i.size,i.bytes))=some (some (.int .i64 0),1,8):=by kernel_rfl
theorem dU (hl:Bi w A n c l)(hn:n≤4096):
 Calls Tryz.prog 126 #[.slice A n c] w fun e w'=>∃g,e=.returned (.tuple #[.slice (some ⟨g,0,none⟩) n n,.int .i64 0])∧An w' g 3 ((Pv l).map (Aq .i64)).toArray∧w.heap.size≤g∧Al w w':=by
 obtain⟨i0,hi,hz0,hz1,hz2⟩:=info_parts Uz;have hlen:=hl.len;have hmk:∀u:World,(Instr.makeSlice 27 (.int .i64 (n:Int)) (.int .i64 (n:Int))).run Tryz.prog u=
  .ok (.slice (some ⟨u.heap.size,0,none⟩) n n) (u.alloc (.cells (madeCells #[.int .i64 0] n) 3)):=fun u=>by
  have h:=run_make (P:=Tryz.prog) u 27 3 i0 (.int .i64 0) Tryz.underlying27 hi hz0 .i64 .i64 (n:Int) (n:Int) (by omega) (Int.le_refl _) (by rw[hz2];omega) (by omega)
  simpa[hz1,Value.cells]using h
 have Hl:=A4 hlen;clear hlen;go_enter Tryz.func126,Tryz.ntmps126
 go_wp2_with fail
 go_loopw [5,6] (fun k i wr=>∃(kn j:Nat),1≤j∧(j≤n∨n=0)∧k=.int .i64 kn∧i=.int .i64 j∧Hid (kn=bl l j)∧
  An wr w.heap.size 3 ((Kn l j).map (Aq .i64)).toArray∧Al w wr) (fun _ i _=>n-(intOf i).toNat)
 case atStart=>
  refine⟨0,1,by omega,by omega,rfl,rfl,(lG l).symm,?_,Al.alloc _ _⟩
  rw[dS,Hl.out,←Rh];exact An.new _ _ _
 case round=>
  obtain⟨kn,j,hj1,hj2,rfl,rfl,hk,hb,he⟩:=hrel;by_cases hlt:j<n
  ·obtain⟨ad,rfl,hcell⟩:=hl.at_ hlt
   have hnle:=hlt;go_wp2_with fail
   go_loopw [5] (fun k w2=>∃kn:Nat,k=.int .i64 kn∧Hid (fK l j kn)∧kn<j∧An w2 w.heap.size 3 ((Kn l j).map (Aq .i64)).toArray∧Al w w2) (fun k _=>(intOf k).toNat)
   case atStart=>exact⟨kn,rfl,by rw[hk.out];exact dQ hj1,by rw[hk.out];exact Vd hj1,hb,he⟩
   case round=>
    clear hk hb he;obtain⟨kn,rfl,hk,hkj,hb,he⟩:=hrel;have c1:=he.cell (hcell kn (by omega))
    have c2:=he.cell (hcell j (by omega))
    have c3:=(hb.cell j).trans (Wp l (by rw[Hl.out];exact hlt))
    have f3:=hb.frozen j;by_cases hk0:0<kn
    ·by_cases hne:gI l kn=gI l j
     ·have e1:(gI l kn==gI l j)=true:=by simpa using hne
      have e2:(gI l kn !=gI l j)=false:=by simpa using hne
      have HN:=A4 hne;clear hne;go_wp2_with fail
      go_quiet (fail)
      go_wp2_with fail
      go_quiet (fail)
      go_wp2_with fail
      go_roundw
      case rel=>exact⟨kn+1,j+1,by omega,by omega,by go_num,by go_num,(Qi hk.out HN.out).symm,Pe (hb.drewN _) (by rw[Qi hk.out HN.out];omega),((he.to_drewN _).setCell (Ai _) _)⟩
      case measure=>simp[intOf];omega
     ·have e1:(gI l kn==gI l j)=false:=by simpa using hne
      have e2:(gI l kn !=gI l j)=true:=by simpa using hne
      have HN:=A4 hne;clear hne;have c4:=(hb.cell (kn-1)).trans (Wp l (by rw[Hl.out];omega))
      have e4:gI (Kn l j) (kn-1)=(bl l kn:Int):=oW l hkj (by rw[Hl.out];omega) hk0
      rw[e4]at c4;clear e4;go_wp2_with fail
      go_quiet (fail)
      go_wp2_with fail
      go_roundw
      case rel=>exact⟨bl l kn,rfl,jO hk.out hk0 HN.out,by have:=@Vd l kn hk0;omega,hb,he.to_drewN _⟩
      case measure=>have:=@Vd l kn hk0;simp[intOf];omega
    ·obtain rfl:kn=0:=by omega
     have hn0:0<n:=by omega
     rw[Dw]at c1;by_cases hne:gI l 0=gI l j
     ·have e1:(gI l 0==gI l j)=true:=by simpa using hne
      have HN:=A4 hne;clear hne;go_wp2_with fail
      go_quiet (fail)
      go_wp2_with fail
      go_quiet (fail)
      go_wp2_with fail
      go_roundw
      case rel=>exact⟨1,j+1,by omega,by omega,by go_num,by go_num,(Qi hk.out HN.out).symm,Pe (hb.drewN _) (by rw[Qi hk.out HN.out];omega),((he.to_drewN _).setCell (Ai _) _)⟩
      case measure=>simp[intOf];omega
     ·have e1:(gI l 0==gI l j)=false:=by simpa using hne
      have HN:=A4 hne;clear hne;go_wp2_with fail
      go_quiet (fail)
      go_wp2_with fail
      go_quiet (fail)
      go_wp2_with fail
      go_roundw
      case rel=>exact⟨0,j+1,by omega,by omega,by go_num,by go_num,(Wo hk.out HN.out).symm,Pe (hb.drewN _) (by rw[Wo hk.out HN.out];omega),((he.to_drewN _).setCell (Ai _) _)⟩
      case measure=>simp[intOf];omega
  ·go_wp2_with fail
   go_ret2
   exact⟨_,rfl,by rw[←oX l (show l.length≤j by rw[Hl.out];omega)];exact hb,Ai _,he⟩
theorem Y6 (hl:Bi w A n c l)(hn:n≤4096):
 Calls Tryz.prog 126 #[.slice A n c] w fun e w'=>∃B,e=.returned (.tuple #[.slice B n n,.int .i64 0])∧Bi w' B n n (Pv l)∧Al w w':=
 (dU hl hn).mono fun e w' ⟨g,h1,h2,h3,h4⟩=>⟨_,h1,h2.ints (by rw[jU,hl.len]) (by unfold maxLen;omega),h4⟩
def aJ (p s:List Int)(i k:Nat):Prop:=k≤i∧k≤p.length∧∀j,j<k→gI p j=gI s (i-k+j)
def wR (p s:List Int)(x:Nat):Prop:=∀j,j<p.length→gI p j=gI s (x+j)
instance (p s:List Int)(x:Nat):Decidable (wR p s x):=by unfold wR;exact inferInstance
theorem Yu (p s:List Int)(i:Nat):aJ p s i 0:=⟨Aw _,Aw _,fun _ h=>absurd h (by omega)⟩
theorem Q5 (h:aJ p s (i+1) (k+1)):aJ p s i k∧gI p k=gI s i:=by
 obtain⟨h1,h2,h3⟩:=h;refine⟨⟨by omega,by omega,fun j hj=>?_⟩,?_⟩
 ·rw[h3 j (by omega)];congr 1;omega
 ·rw[h3 k (by omega)];congr 1;omega
theorem Tl (h:aJ p s i k)(hk:k<p.length)(he:gI p k=gI s i):aJ p s (i+1) (k+1):=by
 obtain⟨h1,h2,h3⟩:=h;refine⟨by omega,by omega,fun j hj=>?_⟩
 rcases At j k with h4|h4
 ·rw[h3 j h4];congr 1;omega
 ·obtain rfl:j=k:=by omega
  rw[he];congr 1;omega
theorem eH (h:aJ p s i k)(h':Sj p k j):aJ p s i j:=by
 obtain⟨h1,h2,h3⟩:=h;have h4:=h'.1;refine⟨by omega,by omega,fun t ht=>?_⟩
 rw[h'.2 t ht,h3 (k-j+t) (by omega)]
 congr 1
 omega
theorem Uo (h:aJ p s i k)(h':aJ p s i j)(hlt:j<k):Sj p k j:=by
 obtain⟨h1,h2,h3⟩:=h;obtain⟨g1,g2,g3⟩:=h';refine⟨hlt,fun t ht=>?_⟩
 rw[g3 t ht,h3 (k-j+t) (by omega)]
 congr 1
 omega
def Wz (p s:List Int)(i k:Nat):Prop:=aJ p s i k∧k<p.length∧∀j,aJ p s i j→j<p.length→j≤k
def Sz (p s:List Int)(i k:Nat):Prop:=aJ p s i k∧k<p.length∧∀j,aJ p s (i+1) (j+1)→j≤k
theorem cQ {p:List Int}(s:List Int)(h:0<p.length):Wz p s 0 0:=⟨Yu _ _ _,h,fun j hj _=>hj.1⟩
theorem dP (h:Wz p s i k):Sz p s i k:=
 ⟨h.1,h.2.1,fun j hj=>h.2.2 j (Q5 hj).1 (by have:=hj.2.1;omega)⟩
theorem jN (h:Sz p s i k)(hk:0<k)(hne:gI p k≠gI s i):Sz p s i (bl p k):=by
 have hb:=@Qy p k hk;refine⟨eH h.1 hb,by have:=hb.1;have:=h.2.1;omega,fun j hj=>?_⟩
 have h1:=h.2.2 j hj;obtain⟨h2,h3⟩:=Q5 hj;have:j≠k:=fun e=>hne (by rw[←e];exact h3)
 exact Tc (Uo h.1 h2 (by omega))
theorem rU (h:Sz p s i k)(he:gI p k=gI s i)(hm:k+1<p.length):Wz p s (i+1) (k+1):=
 ⟨Tl h.1 h.2.1 he,hm,fun j hj _=>by
  rcases j with _|j
  ·omega
  ·have:=h.2.2 j hj;omega⟩
theorem oA (h:Sz p s i k)(he:gI p k=gI s i)(hm:k+1=p.length):Wz p s (i+1) (bl p p.length):=by
 have h0:0<p.length:=by omega
 have hs:=Tl h.1 h.2.1 he;rw[hm]at hs;have hb:=@Qy p p.length h0;exact⟨eH hs hb,hb.1,fun j hj hlt=>Tc (Uo hs hj hlt)⟩
theorem nB (h:Sz p s i 0)(hne:gI p 0≠gI s i):Wz p s (i+1) 0:=
 ⟨Yu _ _ _,h.2.1,fun j hj _=>by
  rcases j with _|j
  ·omega
  ·have h1:=h.2.2 j hj
   obtain rfl:j=0:=by omega
   exact absurd (Q5 hj).2 hne⟩
def L6 (p s:List Int)(i:Nat):List Int:=((List.range (i+1-p.length)).filter fun x=>decide (wR p s x)).map fun x:Nat=>(x:Int)
def Xb (p s:List Int):List Int:=L6 p s s.length
theorem cC {p:List Int}(s:List Int)(h:0<p.length):L6 p s 0=[]:=by
 unfold L6;rw[show 0+1-p.length=0 by omega]
 rfl
theorem mH (h:Sz p s i k)(he:gI p k=gI s i)(hm:k+1=p.length):L6 p s (i+1)=L6 p s i++[((i:Int)+1-p.length)]:=by
 have hs:=Tl h.1 h.2.1 he;rw[hm]at hs;obtain⟨h1,h2,h3⟩:=hs;have ho:wR p s (i+1-p.length):=fun j hj=>h3 j hj
 unfold L6;rw[show i+1+1-p.length=(i+1-p.length)+1 by omega,List.range_succ,List.filter_append,List.map_append]
 congr 1
 simp[ho];omega
theorem eO (h0:0<p.length)(hno:¬aJ p s (i+1) p.length):L6 p s (i+1)=L6 p s i:=by
 unfold L6;rcases At (i+1) p.length with h1|h1
 ·rw[show i+1+1-p.length=0 by omega,show i+1-p.length=0 by omega]
 ·rw[show i+1+1-p.length=(i+1-p.length)+1 by omega,List.range_succ,List.filter_append,List.map_append]
  have ho:¬wR p s (i+1-p.length):=fun ho=>hno ⟨h1,Ai _,fun j hj=>ho j hj⟩
  simp[ho]
theorem iE (h:Sz p s i k)(hm:k+1<p.length):¬aJ p s (i+1) p.length:=fun hs=>by
 have h1:p.length=(p.length-1)+1:=by omega
 rw[h1]at hs;have:=h.2.2 _ hs;omega
theorem cG (h:Sz p s i 0)(hne:gI p 0≠gI s i):¬aJ p s (i+1) p.length:=fun hs=>by
 have h0:=h.2.1;have h1:p.length=(p.length-1)+1:=by omega
 rw[h1]at hs;have h2:=h.2.2 _ hs;have h3:p.length-1=0:=by omega
 rw[h3]at hs;exact hne (Q5 hs).2
theorem pI {n m c d:Nat}(hp:Bi w A n c p)(hs:Bi w B m d s)(hn:n≤4096)(h0:0<n)(hm:m≤4096):
 Calls Tryz.prog 117 #[.slice A n c,.slice B m d] w fun e w'=>∃C n' c',e=.returned (.tuple #[.slice C n' c',.int .i64 0])∧Av w' w.heap.size C n' c' (Xb p s)∧Al w w':=by
 obtain⟨i0,hi,hz0,hz1,hz2⟩:=info_parts Bz;have hpl:=A4 hp.len;have hsl:=A4 hs.len;have hn0:((n:Int)==0)=false:=by simp;omega
 obtain⟨pa,rfl,hpc⟩:=hp.at_ h0;go_enter Tryz.func117,Tryz.ntmps117
 go_wp2_with fail
 refine(Y6 hp (by omega)).mono ?_
 rintro e w1 ⟨B1,rfl,hb1,he1⟩;obtain⟨ba,rfl,hbc⟩:=hb1.at_ h0;go_wp2_with fail
 go_loopw [8,10,41] (fun v k i wr=>∃(kn j q:Nat) (C:Option Addr) (c':Nat),kn<n∧j≤m∧q≤j+1∧k=.int .i64 kn∧i=.int .i64 j∧v=.slice C q c'∧Hid (Wz p s j kn)∧Av wr w1.heap.size C q c' (L6 p s j)∧Al w1 wr) (fun _ _ i _=>m-(intOf i).toNat)
 case atStart=>exact⟨0,0,0,none,0,h0,by omega,by omega,rfl,rfl,rfl,cQ s (by rw[hpl.out];exact h0),by rw[cC s (by rw[hpl.out];exact h0)];exact Av.nil _ _,Al.refl _⟩
 case round=>
  obtain⟨kn,j,q,C,c',hkn,hj,hq,rfl,rfl,rfl,hmx,hown,he2⟩:=hrel;by_cases hlt:j<m
  ·obtain⟨sa,rfl,hsc⟩:=hs.at_ hlt
   have sj:=he2.cell (he1.cell (hsc j hlt));go_wp2_with fail
   go_loopw [10] (fun k w2=>∃kn:Nat,kn<n∧k=.int .i64 kn∧Hid (Sz p s j kn)∧w2=wr) (fun k _=>(intOf k).toNat)
   case atStart=>exact⟨kn,hkn,rfl,dP hmx.out,rfl⟩
   case round=>
    clear hmx hkn;obtain⟨kn,hkn,rfl,hcan,rfl⟩:=hrel;have pk:=he2.cell (he1.cell (hpc kn hkn));by_cases hne:gI p kn=gI s j
    ·have e1:(gI p kn==gI s j)=true:=by simpa using hne
     have e2:(gI p kn !=gI s j)=false:=by simpa using hne
     have HN:=A4 hne;clear hne;by_cases hfull:kn+1=n
     ·have hf:((kn:Int)+1==n)=true:=by simp;omega
      have bk:w1.cell? (ba.add kn)=some (.int .i64 (bl p n)):=by
       rw[←Wq p (by rw[hpl.out];exact Ai _) h0,show n-1=kn by omega];exact hbc kn (by omega)
      have hblt:=@Vd p n h0;have hposl:Hid (L6 p s (j+1)=L6 p s j++[((j:Int)+1-(n:Int))]):=by
       have:=mH hcan.out HN.out (by rw[hpl.out];exact hfull)
       rw[hpl.out]at this;exact this
      have hmx:Hid (Wz p s (j+1) (bl p n)):=by
       have:=oA hcan.out HN.out (by rw[hpl.out];exact hfull)
       rw[hpl.out]at this;exact this
      have HF:=A4 hfull;have hfull':kn+1≤n:=by omega
      clear hfull;rcases Bk kn with hk0|hk0
      ·have N0:=trivial;exact zG
      ·have N1:=trivial;exact zG
     ·have hf:((kn:Int)+1==n)=false:=by simp;omega
      have hposl:Hid (L6 p s (j+1)=L6 p s j):=eO (by rw[hpl.out];exact h0) (iE hcan.out (by rw[hpl.out];omega))
      have hmx:Hid (Wz p s (j+1) (kn+1)):=rU hcan.out HN.out (by rw[hpl.out];omega)
      rcases Bk kn with hk0|hk0
      ·subst hk0
       rw[Dw]at pk;clear hcan HN;go_wp2_with fail
       go_roundw
       case rel=>exact⟨1,j+1,q,C,c',by omega,by omega,by omega,by go_num,by go_num,rfl,hmx,by rw[hposl.out];exact hown,he2⟩
       case measure=>simp[intOf];omega
      ·clear hcan HN
       go_wp2_with fail
       go_roundw
       case rel=>exact⟨kn+1,j+1,q,C,c',by omega,by omega,by omega,by go_num,by go_num,rfl,hmx,by rw[hposl.out];exact hown,he2⟩
       case measure=>simp[intOf];omega
    ·have e1:(gI p kn==gI s j)=false:=by simpa using hne
     have e2:(gI p kn !=gI s j)=true:=by simpa using hne
     rcases Bk kn with hk0|hk0
     ·subst hk0
      rw[Dw]at pk;have hf:((0:Int)==n)=false:=by simp;omega
      have hposl:Hid (L6 p s (j+1)=L6 p s j):=eO (by rw[hpl.out];exact h0) (cG hcan.out hne)
      have hmx:Hid (Wz p s (j+1) 0):=nB hcan.out hne;clear hne hcan;go_wp2_with fail
      go_roundw
      case rel=>exact⟨0,j+1,q,C,c',h0,by omega,by omega,by go_num,by go_num,rfl,hmx,by rw[hposl.out];exact hown,he2⟩
      case measure=>simp[intOf];omega
     ·have bk:wr.cell? (ba.add (kn-1))=some (.int .i64 (bl p kn)):=by
       rw[←Wq p (by rw[hpl.out];omega) hk0];exact he2.cell (hbc _ (by omega))
      have hblt:=@Vd p kn hk0;have hcan':Hid (Sz p s j (bl p kn)):=jN hcan.out hk0 hne;clear hne hcan;go_wp2_with fail
      go_roundw
      case rel=>exact⟨bl p kn,by omega,rfl,hcan',trivial⟩
      case measure=>simp[intOf];omega
  ·obtain rfl:j=m:=by omega
   go_wp2_with fail
   go_ret2
   exact⟨C,q,c',rfl,by unfold Xb;rw[hsl.out];exact Ay.lower hown he1.hsize,he1.trans he2⟩
structure Pt where
 first:Int
 reg:Int
 op:Int
 second:Int
 wait:Int
structure Cm where
 count:Int
 reg:Int
 op:Int
 verb:Int
 arg:Int
def Pt.zero:Pt:=⟨0,0,0,0,0⟩
def Cm.zero:Cm:=⟨0,0,0,0,0⟩
def X2 (c:Int):Bool:=if 97≤c∧c≤122 then true else decide (65≤c∧c≤90)
def Gb (c:Int):Bool:=c==100||c==99||c==121
def Kv (p:Pt):Bool:=decide (p.first<0)||decide (999<p.first)||decide (p.second<0)||decide (999<p.second)||(decide (0<p.second)&&p.op==0)
def P4 (p:Pt):Bool:=(p.reg !=0 && !X2 p.reg)||(p.op !=0 && !Gb p.op)
def Cz (p:Pt):Bool:=
 if p.wait==0||p.wait==102||p.wait==70||p.wait==116||p.wait==84 then true
 else if p.wait==114||p.wait==34 then p.op==0&&(p.wait==114||p.reg==0)
 else if p.wait==105||p.wait==97 then p.op !=0
 else false
def F5 (p:Pt):Bool:=!Kv p && !P4 p&&Cz p
def Jy (k:Int):Bool:=k==104||k==108||k==48||k==94||k==36||k==124||k==119||k==87||k==98||k==66||k==101||k==69||k==37||k==59||k==44
def Gv (k:Int):Bool:=k==102||k==70||k==116||k==84
def F0 (k:Int):Bool:=k==73||k==65||k==115||k==83||k==67||k==68||k==120||k==88||k==112||k==80||k==89||k==126||k==117||k==85||k==46||k==106||k==107||k==71||k==47||k==63||k==110||k==78||k==82
def X8 (p:Pt):Int:=if p.op==0 then p.first else p.second
def H8 (p:Pt)(k:Int):Bool:=(decide (49≤k)&&decide (k≤57))||(k==48&&decide (0<X8 p))
def Bd (p:Pt)(k:Int):Int:=
 if H8 p k then 1 else if Gb k then 3 else if Jy k then 5 else if Gv k then 4
 else if k==105||k==97 then(if p.op !=0 then 8 else 6)
 else if p.op !=0 then 0
 else if k==34 then(if p.reg !=0 then 0 else 2)
 else if k==114 then 7
 else if F0 k then 6 else 0
def Fb (n k:Int):Int:=min 999 (10*n+k-48)
def Wy (p:Pt):Int:=if p.first==0 then p.second else if p.second==0 then p.first else min 999 (p.first*p.second)
def M9 (p:Pt)(v a:Int):Cm:=⟨Wy p,p.reg,p.op,v,a⟩
def tW (k:Int):Bool:=k==119||k==87||k==40||k==41||k==91||k==93||k==123||k==125||k==34||k==39||k==96
structure Tk where
 p:Pt
 c:Cm
 how:Int
def Er:Tk:=⟨Pt.zero,Cm.zero,3⟩
def Fl (p:Pt)(k:Int):Tk:=
 if p.wait==34 then(if X2 k then⟨{ p with reg:=k,wait:=0 },Cm.zero,1⟩else Er)
 else if p.wait==105||p.wait==97 then(if tW k then⟨Pt.zero,M9 p p.wait k,2⟩else Er)
 else⟨Pt.zero,M9 p p.wait k,2⟩
def Cp (p:Pt)(k:Int):Tk:=
 if k<32∨k=127 then Er
 else if p.wait≠0 then Fl p k
 else if Bd p k=1 then(if p.op≠0 then⟨{ p with second:=Fb p.second k },Cm.zero,1⟩else⟨{ p with first:=Fb p.first k },Cm.zero,1⟩)
 else if Bd p k=2∨Bd p k=4∨Bd p k=7∨Bd p k=8 then⟨{ p with wait:=k },Cm.zero,1⟩
 else if Bd p k=3 then(if p.op=0 then⟨{ p with op:=k },Cm.zero,1⟩else if p.op≠k then Er else⟨Pt.zero,M9 p k 0,2⟩)
 else if Bd p k=5∨Bd p k=6 then⟨Pt.zero,M9 p k 0,2⟩
 else Er
theorem cS {f r o s k:Int}(h:Bd ⟨f,r,o,s,0⟩ k=2∨Bd ⟨f,r,o,s,0⟩ k=4∨Bd ⟨f,r,o,s,0⟩ k=7∨Bd ⟨f,r,o,s,0⟩ k=8):Cz ⟨f,r,o,s,k⟩=true:=by
 unfold Bd at h;by_cases a1:H8 ⟨f,r,o,s,0⟩ k=true
 ·simp[a1]at h
 by_cases a2:Gb k=true
 ·simp[a1,a2]at h
 by_cases a3:Jy k=true
 ·simp[a1,a2,a3]at h
 by_cases a4:Gv k=true
 ·unfold Cz
  simp[Gv]at a4;rw[if_pos (by simp;omega)]
 by_cases a5:k=105∨k=97
 ·have a5':(k==105||k==97)=true:=by simpa using a5
  by_cases ho:o=0
  ·subst ho;simp[a1,a2,a3,a4,a5']at h
  ·unfold Cz
   rw[if_neg (by simp;omega),if_neg (by simp;omega),if_pos (by simpa using a5)]
   simpa using ho
 ·have a5':(k==105||k==97)=false:=by simpa using a5
  by_cases ho:o=0
  ·subst ho
   by_cases a6:k=34
   ·subst a6
    by_cases hr:r=0
    ·subst hr;rfl
    ·simp[a1,a2,a3,a4,hr]at h
   ·by_cases a7:k=114
    ·subst a7;rfl
    ·have a6':(k==34)=false:=by simpa using a6
     have a7':(k==114)=false:=by simpa using a7
     simp only[a1,a2,a3,a4,a5',a6',a7',if_false,Bool.false_eq_true]at h;exfalso
     revert h
     by_cases a8:F0 k=true<;>simp[a8]
  ·simp[a1,a2,a3,a4,a5',ho]at h
theorem Sm:F5 Pt.zero=true:=by decide
theorem bK {p:Pt}{k:Int}(h:F5 p=true):F5 (Cp p k).p=true∧((Cp p k).how=1∨(Cp p k).how=2∨(Cp p k).how=3)∧((Cp p k).how≠1→(Cp p k).p=Pt.zero)∧
 ((Cp p k).how=1→(Cp p k).p=p→p.first=999∨p.second=999):=by
 obtain⟨f,r,o,s,wt⟩:=p;unfold Cp;split
 ·exact I42
 rename_i hk;split
 ·rename_i hw
  unfold Fl;split
  ·rename_i h34
   split
   ·rename_i hl
    simp only at h34 hl hw;have h34':wt=34:=by simpa using h34
    subst h34';refine⟨?_,by simp,by simp,?_⟩
    ·simp only[F5,Kv,P4,Cz]at h ⊢
     simp at h ⊢;obtain⟨⟨h1,h2,h3⟩,h4⟩:=h;exact⟨h1,.inr hl,h3⟩
    ·intro _ e
     injection e with _ _ _ _ e;omega
   ·exact I42
  ·split
   ·split
    ·exact I76
    ·exact I42
   ·exact I76
 rename_i hw;simp only[ne_eq,Decidable.not_not]at hw;subst hw;split
 ·rename_i hd
  have hdb:H8 ⟨f,r,o,s,0⟩ k=true:=by
   unfold Bd at hd;split at hd
   ·assumption
   ·exfalso;revert hd;(repeat' split)<;>decide
  have hb:0≤f∧f≤999∧0≤s∧s≤999:=by
   simp[F5,Kv]at h;omega
  split
  ·rename_i ho
   simp only[ne_eq]at ho;have hcs:X8 ⟨f,r,o,s,0⟩=s:=by unfold X8;simp[ho]
   simp[H8,hcs]at hdb;have hc:0≤Fb s k∧Fb s k≤999∧(Fb s k=s→s=999):=by unfold Fb;omega
   refine⟨?_,by simp,by simp,?_⟩
   ·simp[F5,Kv,P4,Cz]at h ⊢
    simp[ho]at h ⊢;refine⟨?_,h.2⟩
    omega
   ·intro _ e
    injection e with _ _ _ e _;exact .inr (hc.2.2 e)
  ·rename_i ho
   simp only[ne_eq,Decidable.not_not]at ho;subst ho;have hcs:X8 ⟨f,r,0,s,0⟩=f:=by unfold X8;simp
   simp[H8,hcs]at hdb;have hc:0≤Fb f k∧Fb f k≤999∧(Fb f k=f→f=999):=by unfold Fb;omega
   refine⟨?_,by simp,by simp,?_⟩
   ·simp[F5,Kv,P4,Cz]at h ⊢
    refine⟨?_,h.2⟩
    omega
   ·intro _ e
    injection e with e _ _ _ _;exact .inl (hc.2.2 e)
 rename_i hd;split
 ·rename_i hq
  have hk0:k≠0:=by omega
  have hwk:=cS (f:=f) (s:=s) hq;refine⟨?_,by simp,by simp,?_⟩
  ·simp only[F5,Kv,P4]at h ⊢
   rw[hwk];simp at h ⊢;exact h.1
  ·intro _ e
   injection e with _ _ _ _ e;exact absurd e hk0
 rename_i hq;split
 ·rename_i ho3
  have hob:Gb k=true:=by
   unfold Bd at ho3;split at ho3
   ·exact absurd ho3 (by decide)
   ·split at ho3
    ·assumption
    ·exfalso;revert ho3;(repeat' split)<;>decide
  split
  ·rename_i ho
   simp only at ho;subst ho;have hk0:k≠0:=by omega
   refine⟨?_,by simp,by simp,?_⟩
   ·simp[F5,Kv,P4,Cz]at h ⊢
    simp[hob,hk0];exact⟨h.1.1,h.2⟩
   ·intro _ e
    injection e with _ _ e _ _;exact absurd e hk0
  ·split
   ·exact I42
   ·exact I76
 split
 ·exact I76
 ·exact I42
def Rq (N:List Nat)(w w':World):Prop:=w.heap.size≤w'.heap.size∧∀k,k<w.heap.size→k∉N→w'.heap[k]? = w.heap[k]?
section
variable {N:List Nat} {w w' w'':World} {base e z n c:Nat} {A:Option Addr} {xs:List Value}
theorem Al.eqv (h:Al w w')(N:List Nat):Rq N w w':=⟨h.hsize,fun k hk _=>Below.block h k hk⟩
theorem Rq.refl (N:List Nat)(w:World):Rq N w w:=⟨Nat.le_refl _,fun _ _ _=>rfl⟩
theorem Rq.trans (h:Rq N w w')(k:Rq N w' w''):Rq N w w'':=⟨Nat.le_trans h.1 k.1,fun j hj hn=>(k.2 j (Nat.lt_of_lt_of_le hj h.1) hn).trans (h.2 j hj hn)⟩
theorem Rq.setCell (w:World)(p:Addr)(u:Value)(hp:p.block∈N):Rq N w (w.setCell p u):=by
 refine⟨by simp,fun k _ hn=>?_⟩
 unfold World.setCell;rw[Array.getElem?_modify,if_neg (fun e=>hn (by rw[←e];exact hp))]
theorem Rq.grown {row:Option Nat}(hg:w.grownBy w' row)(hr:∀k,row=some k→k∈N):Rq N w w':=
 ⟨hg.size,fun k hk hn=>hg.block k hk (fun e=>hn (hr k e.symm))⟩
theorem Ay.eqv (h:Ay w base e z A n c xs)(he:Rq N w w')(hb:∀k,(Aj A n c).ownBlock=some k→k∉N):Ay w' base e z A n c xs:=by
 obtain⟨h1,h2⟩:=h;refine⟨h1,?_⟩
 rcases h2 with h2|⟨g,cap,cur,hv,hbb,hg,r⟩
 ·exact .inl h2
 ·refine .inr ⟨g,cap,cur,hv,hbb,?_,r⟩
  injection hv with hA _ _;subst hA;rw[he.2 g (Array.getElem?_eq_some_iff.1 hg).1 (hb g rfl)];exact hg
theorem An.eqv {g t:Nat}{cs:Array Value}(h:An w g t cs)(he:Rq N w w')(hg:g∉N):An w' g t cs:=(he.2 g h.lt hg).trans h
theorem Ay.unlike {base' e' z' n' c':Nat}{A':Option Addr}{xs':List Value}(h:Ay w base e z A n c xs)(h':Ay w base' e' z' A' n' c' xs')(hne:e≠e')(k:Nat)(hk:(Aj A n c).ownBlock=some k):(Aj A' n' c').ownBlock≠some k:=by
 intro hk';rcases h.2 with⟨hv,_⟩|⟨g,cap,cur,hv,_,hg,_⟩
 ·injection hv with hA _ _
  subst hA;cases hk
 rcases h'.2 with⟨hv',_⟩|⟨g',cap',cur',hv',_,hg',_⟩
 ·injection hv' with hA _ _
  subst hA;cases hk'
 injection hv with hA _ _;subst hA;injection hv' with hA _ _;subst hA;injection hk with hk;injection hk' with hk';have:g=g':=by
  have h1:g=k:=hk;have h2:g'=k:=hk';omega
 subst this;rw[hg]at hg';injection hg' with hg';injection hg' with _ h1;exact hne h1
end
inductive Tr where
 |nil:Tr
 |node (l:Tr) (c:Int) (r:Tr):Tr
namespace Tr
def sz:Tr→Nat
 |nil=>0
 |node l _ r=>l.sz+1+r.sz
def ht:Tr→Nat
 |nil=>0
 |node l _ r=>1+max l.ht r.ht
def toL:Tr→List Int
 |nil=>[]
 |node l c r=>l.toL++c::r.toL
def bal:Tr→Prop
 |nil=>True
 |node l _ r=>l.bal∧r.bal∧l.ht≤r.ht+1∧r.ht≤l.ht+1
theorem toL_node (l:Tr)(c:Int)(r:Tr):(node l c r).toL=l.toL++c::r.toL:=rfl
theorem len:∀t:Tr,t.toL.length=t.sz
 |nil=>rfl
 |node l c r=>by unfold toL sz;rw[List.length_append,List.length_cons,len l,len r];omega
theorem ht_le:∀t:Tr,t.ht≤t.sz
 |nil=>Nat.le_refl _
 |node l c r=>by have:=ht_le l;have:=ht_le r;unfold ht sz;omega
def level (l:Tr)(c:Int)(r:Tr):Tr:=
 if l.ht>r.ht+1 then
  match l with
  |nil=>nil
  |node ll lc lr=>if lr.ht≤ll.ht then node ll lc (node lr c r)else
   match lr with
   |nil=>nil
   |node ml mc mr=>node (node ll lc ml) mc (node mr c r)
 else if r.ht>l.ht+1 then
  match r with
  |nil=>nil
  |node rl rc rr=>if rl.ht≤rr.ht then node (node l c rl) rc rr else
   match rl with
   |nil=>nil
   |node ml mc mr=>node (node l c ml) mc (node mr rc rr)
 else node l c r
def last:Tr→Tr×Int
 |nil=>(nil,0)
 |node l c nil=>(l,c)
 |node l c (node a b d)=>(level l c (last (node a b d)).1,(last (node a b d)).2)
def buildF:Nat→List Int→Tr
 |0,_=>nil
 |f+1,l=>if l.length=0 then nil else node (buildF f (l.take (l.length/2))) (gI l (l.length/2)) (buildF f (l.drop (l.length/2+1)))
def build (l:List Int):Tr:=buildF l.length l
end Tr
def Jb (c:Int):Prop:=0≤c∧c≤1114111∧(c<55296∨57343<c)
instance (c:Int):Decidable (Jb c):=by unfold Jb;exact inferInstance
def M8 (c:Nat):List Nat:=
 if c<128 then [c]
 else if c<2048 then [192+c/64,128+c%64]
 else if c<65536 then [224+c/4096,128+c/64%64,128+c%64]
 else [240+c/262144,128+c/4096%64,128+c/64%64,128+c%64]
def G0 (l:List Nat):ByteArray:=⟨(l.map UInt8.ofNat).toArray⟩
def Ao (s:ByteArray):List Nat:=s.data.toList.map UInt8.toNat
def gN (l:List Nat)(k:Nat):Nat:=l[k]?.getD 0
theorem Ho (s:ByteArray):(Ao s).length=s.size:=by unfold Ao;rw[List.length_map];rfl
theorem Sr (s:ByteArray):∀x∈Ao s,x<256:=by
 intro x hx;unfold Ao at hx;obtain⟨u,_,rfl⟩:=List.mem_map.1 hx;exact u.toNat_lt
theorem Re {l:List Nat}(h:∀x∈l,x<256):Ao (G0 l)=l:=by
 unfold G0 Ao;simp only[List.toList_toArray,List.map_map]
 conv=>rhs;rw[←List.map_id l]
 apply List.map_congr_left
 intro x hx;simp only[Function.comp,UInt8.toNat_ofNat',id];exact Nat.mod_eq_of_lt (h x hx)
theorem Ss (s:ByteArray)(k:Nat)(h:k<s.size):(s[k]'h).toNat=gN (Ao s) k:=by
 unfold gN Ao;rw[List.getElem?_map,List.getElem?_eq_getElem (show k<s.data.toList.length by simpa using h)]
 simp
 rfl
theorem dY {l:List Nat}(h:∀x∈l,x<256)(k:Nat):gN l k<256:=by
 unfold gN;cases hk:l[k]? with
 |none=>simp
 |some u=>exact h u (List.mem_of_getElem? hk)
theorem mX (s t:ByteArray):Ao (s++t)=Ao s++Ao t:=by
 unfold Ao;simp[ByteArray.data_append]
def Dt (b:Nat):Nat:=if b<128 then 1 else if b<192 then 0 else if b<224 then 2 else if b<240 then 3 else if b<248 then 4 else 0
def Hv (b:Nat):Nat:=if b<128 then b else if b<192 then 0 else if b<224 then b%32 else if b<240 then b%16 else if b<248 then b%8 else 0
def L0 (n:Nat):Nat:=if n=2 then 128 else if n=3 then 2048 else if n=4 then 65536 else 0
def Jc (l:List Nat):Nat→Nat→Nat→Nat×Nat
 |0,_,c=>(0,c)
 |f+1,i,c=>if i=l.length then(3,c)else if gN l i/64≠2 then(4,c)else Jc l f (i+1) (c*64+gN l i%64)
def Nk (l:List Nat):Nat×Nat:=Jc l (Dt (gN l 0)-1) 1 (Hv (gN l 0))
def V9 (l:List Nat):Prop:=¬((Nk l).2<L0 (Dt (gN l 0))∨¬Jb (Nk l).2)
instance (l:List Nat):Decidable (V9 l):=by unfold V9;exact inferInstance
def Gp (l:List Nat):Nat:=if l.length=0 then 3 else if Dt (gN l 0)=0 then 4 else if(Nk l).1≠0 then(Nk l).1 else if V9 l then 0 else 4
def Gq (l:List Nat):Nat:=if Gp l=0 then(Nk l).2 else 0
def Jq (l:List Nat):Nat:=if Gp l=0 then Dt (gN l 0)else 0
theorem Y2 (c:Nat):0<(M8 c).length:=by unfold M8;split<;>(try split)<;>(try split)<;>simp
theorem Ee (a:Nat)(l:List Nat):gN (a::l) 0=a:=rfl
theorem F1 (a:Nat)(l:List Nat)(k:Nat):gN (a::l) (k+1)=gN l k:=rfl
theorem kQ (h:b<128):Dt b=1∧Hv b=b:=by unfold Dt Hv;rw[if_pos h,if_pos h];exact⟨rfl,rfl⟩
theorem xP (h:128≤b)(h':b<192):Dt b=0:=by unfold Dt;rw[if_neg (by omega),if_pos h']
theorem kP (h:192≤b)(h':b<224):Dt b=2∧Hv b=b%32:=by
 unfold Dt Hv;rw[if_neg (by omega),if_neg (by omega),if_pos h',if_neg (by omega),if_neg (by omega),if_pos h'];exact⟨rfl,rfl⟩
theorem kO (h:224≤b)(h':b<240):Dt b=3∧Hv b=b%16:=by
 unfold Dt Hv;rw[if_neg (by omega),if_neg (by omega),if_neg (by omega),if_pos h',if_neg (by omega),if_neg (by omega),if_neg (by omega),if_pos h'];exact⟨rfl,rfl⟩
theorem kN (h:240≤b)(h':b<248):Dt b=4∧Hv b=b%8:=by
 unfold Dt Hv;rw[if_neg (by omega),if_neg (by omega),if_neg (by omega),if_neg (by omega),if_pos h',if_neg (by omega),if_neg (by omega),if_neg (by omega),if_neg (by omega),if_pos h'];exact⟨rfl,rfl⟩
theorem xO (h:248≤b):Dt b=0:=by
 unfold Dt;rw[if_neg (by omega),if_neg (by omega),if_neg (by omega),if_neg (by omega),if_neg (by omega)]
theorem Vv (h:Jb c)(m:List Nat):Dt (gN (M8 c++m) 0)=(M8 c).length:=by
 obtain⟨h0,h1,h2⟩:=h;unfold M8;split
 ·rw[J0b,Ee,(kQ (by omega)).1];rfl
 split
 ·rw[J0b,Ee,(kP (by omega) (by omega)).1];rfl
 split
 ·rw[J0b,Ee,(kO (by omega) (by omega)).1];rfl
 ·rw[J0b,Ee,(kN (by omega) (by omega)).1];rfl
theorem Gu {l:List Nat}{f i c:Nat}(h1:i≠l.length)(h2:gN l i/64=2):Jc l (f+1) i c=Jc l f (i+1) (c*64+gN l i%64):=by
 rw[Jc,if_neg h1,if_neg (by omega)]
theorem Za (h:Jb c)(m:List Nat):Nk (M8 c++m)=(0,c):=by
 unfold Nk;rw[Vv h];obtain⟨h0,h1,h2⟩:=h;unfold M8;split
 ·rw[J0b,Ee,(kQ (by omega)).2];rfl
 split
 ·rw[J0b,Ee,(kP (by omega) (by omega)).2]
  show Jc ((192+c/64)::(128+c%64)::m) 1 1 _=_
  rw[Gu (by simp) (by rw[F1,Ee];omega),Jc,F1,Ee]
  congr 1;omega
 split
 ·rw[J0b,Ee,(kO (by omega) (by omega)).2]
  show Jc ((224+c/4096)::(128+c/64%64)::(128+c%64)::m) 2 1 _=_
  rw[Gu (by simp) (by rw[F1,Ee];omega),Gu (by simp) (by rw[F1,F1,Ee];omega),Jc,F1,F1,F1,Ee,Ee]
  congr 1;omega
 ·rw[J0b,Ee,(kN (by omega) (by omega)).2]
  show Jc ((240+c/262144)::(128+c/4096%64)::(128+c/64%64)::(128+c%64)::m) 3 1 _=_
  rw[Gu (by simp) (by rw[F1,Ee];omega),Gu (by simp) (by rw[F1,F1,Ee];omega),Gu (by simp) (by rw[F1,F1,F1,Ee];omega),Jc]
  simp only[F1,Ee]
  congr 1;omega
theorem nZ (h:Jb c)(m:List Nat):Gp (M8 c++m)=0:=by
 have hl:=Vv h m;have hr:=Za h m;have hp:=Y2 c;unfold Gp;rw[if_neg (by rw[List.length_append];omega),if_neg (by omega),hr,if_neg (by simp),if_pos]
 unfold V9;rw[hr,hl];refine fun hh=>hh.elim (fun h1=>?_) (fun h1=>h1 h)
 unfold M8 L0 at h1;obtain⟨h0,_,h2⟩:=h;split at h1
 ·simp at h1
 split at h1
 ·simp at h1;omega
 split at h1
 ·simp at h1;omega
 ·simp at h1;omega
theorem Zc (h:Jb c)(m:List Nat):Gq (M8 c++m)=c:=by
 unfold Gq;rw[if_pos (nZ h m),Za h m]
theorem C9 {ars:Array Operand}{tys:Array TypeId}(hgd:o.guard=none)
 (f:FuncId) (args:Array Value) (ho:o.op=.call { callee:=.value (.func f),args:=ars,argTypes:=tys }) (hrun:(execOp a.eval o).run P w=.ok (.enter f args) w) (R:Value→World→Prop)
 (hc:Calls P f args w fun e w'=>∃v,e=.returned v∧R v w'∧Al w w') (h:∀v w',R v w'→Al w w'→K (a.put o.dst v) w'):if Bm o (yielded ops a.tmps)=true then Oper.wp P o a w K Q else E:=by
 have hw:Bm o (yielded ops a.tmps)=true:=by simp[Bm,hgd]
 rw[if_pos hw];unfold Oper.wp;rw[hrun,Oper.upon_enter];refine hc.mono fun e w' hh=>?_
 obtain⟨v,rfl,hR,hE⟩:=hh;exact h v w' hR hE
def Bf (c:Int)(big:Bool):Int:=
 if c=32∨c=9 then 0 else if big=true∨(97≤c∧c≤122)∨(65≤c∧c≤90)∨(48≤c∧c≤57)∨c=95∨128≤c then 1 else 2
theorem Le (c:Int)(big:Bool):0≤Bf c big∧Bf c big≤2:=by unfold Bf;split<;>(try split)<;>omega
def Au (l:List Int)(big:Bool)(k:Int):Int:=if 0≤k∧k<l.length then Bf (gI l k.toNat) big else -1
theorem Ft (h:k<l.length):Au l big k=Bf (gI l k) big:=by
 unfold Au;rw[if_pos (by omega)];rfl
theorem Kh {k:Int}(h:k<0∨(l.length:Int)≤k):Au l big k = -1:=by
 unfold Au;rw[if_neg (by omega)]
theorem Vx (l:List Int)(big:Bool)(k:Int) : -1≤Au l big k∧Au l big k≤2:=by
 unfold Au;split
 ·have:=Le (gI l k.toNat) big;omega
 ·omega
def Rt (l:List Int)(big:Bool)(kind:Int):Nat→Nat→Nat
 |0,k=>k
 |f+1,k=>if Au l big k=kind then Rt l big kind f (k+1)else k
def Eg (l:List Int)(big:Bool)(kind:Int)(k:Nat):Nat:=Rt l big kind (l.length+1-k) k
def Ga (l:List Int)(big:Bool)(kind:Int):Nat→Nat
 |0=>0
 |m+1=>if Au l big m=kind then Ga l big kind m else m+1
theorem Ub {l:List Int}{big:Bool}{kind:Int}(hk:0≤kind):∀(f k:Nat),l.length+1-k≤f→
 k≤Rt l big kind f k∧(∀i,k≤i→i<Rt l big kind f k→Au l big i=kind)∧Au l big (Rt l big kind f k)≠kind∧(Rt l big kind f k≤l.length∨Rt l big kind f k=k)
 |0,k,h=>by
  refine⟨Ai _,fun i h1 h2=>absurd h2 (by show ¬i<k;omega),?_,.inr rfl⟩
  show Au l big k≠kind
  rw[Kh (by omega)];omega
 |f+1,k,h=>by
  unfold Rt;split
  ·rename_i h1
   have hlt:k<l.length:=by
    rcases At k l.length with h2|h2
    ·exact h2
    ·rw[Kh (by omega)]at h1;omega
   obtain⟨a,b,c,d⟩:=Ub (l:=l) (big:=big) hk f (k+1) (by omega)
   refine⟨by omega,fun i h2 h3=>?_,c,?_⟩
   ·rcases At k i with h4|h4
    ·exact b i (by omega) h3
    ·obtain rfl:i=k:=by omega
     exact h1
   ·rcases d with d|d
    ·exact .inl d
    ·exact .inl (by omega)
  ·rename_i h1
   exact⟨Ai _,fun i h2 h3=>absurd h3 (by omega),h1,.inr rfl⟩
theorem F7 (hk:0≤kind)(k:Nat):
 k≤Eg l big kind k∧(∀i,k≤i→i<Eg l big kind k→Au l big i=kind)∧Au l big (Eg l big kind k)≠kind∧(Eg l big kind k≤l.length∨Eg l big kind k=k):=
 Ub hk _ _ (Ai _)
theorem Pz (hk:0≤kind){k j:Nat}(h1:k≤j)(h2:∀i,k≤i→i<j→Au l big i=kind)(h3:Au l big j≠kind):Eg l big kind k=j:=by
 obtain⟨a,b,c,_⟩:=F7 (l:=l) (big:=big) hk k;rcases Nat.lt_trichotomy (Eg l big kind k) j with h|h|h
 ·exact absurd (h2 _ a h) c
 ·exact h
 ·exact absurd (b j h1 h) h3
theorem J2 {l:List Int}{big:Bool}{kind:Int}:∀m:Nat,
 Ga l big kind m≤m∧(∀i:Nat,Ga l big kind m≤i→i<m→Au l big i=kind)∧(Ga l big kind m=0∨Au l big ((Ga l big kind m:Int)-1)≠kind)
 |0=>⟨Ai _,fun i h1 h2=>absurd h2 (by omega),.inl rfl⟩
 |m+1=>by
  unfold Ga;split
  ·rename_i h1
   obtain⟨a,b,c⟩:=J2 (l:=l) (big:=big) (kind:=kind) m;refine⟨by omega,fun i h2 h3=>?_,c⟩
   rcases At i m with h4|h4
   ·exact b i h2 h4
   ·obtain rfl:i=m:=by omega
    exact h1
  ·rename_i h1
   refine⟨Ai _,fun i h2 h3=>absurd h3 (by omega),.inr ?_⟩
   rw[show((m+1:Nat):Int)-1=m by omega]
   exact h1
theorem Xj {m j:Nat}(h1:j≤m)(h2:∀i:Nat,j≤i→i<m→Au l big i=kind)(h3:j=0∨Au l big ((j:Int)-1)≠kind):Ga l big kind m=j:=by
 obtain⟨a,b,c⟩:=J2 (l:=l) (big:=big) (kind:=kind) m;rcases Nat.lt_trichotomy (Ga l big kind m) j with h|h|h
 ·rcases h3 with h3|h3
  ·omega
  ·have:=b (j-1) (by omega) (by omega)
   rw[show((j-1:Nat):Int)=(j:Int)-1 by omega]at this
   exact absurd this h3
 ·exact h
 ·rcases c with c|c
  ·omega
  ·have:=h2 (Ga l big kind m-1) (by omega) (by omega)
   rw[show((Ga l big kind m-1:Nat):Int)=(Ga l big kind m:Int)-1 by omega]at this
   exact absurd this c
def Fd (l:List Int)(k:Nat)(big:Bool):Nat:=Eg l big 0 (if 0<Au l big k then Eg l big (Au l big k) k else k)
def Fj (l:List Int)(k:Nat)(big:Bool):Nat:=
 if Ga l big 0 k=0 then 0 else Ga l big (Au l big ((Ga l big 0 k:Int)-1)) (Ga l big 0 k)
def Cl (l:List Int)(k:Nat)(big:Bool):Nat:=
 if l.length≤Eg l big 0 (k+1)then l.length-1 else Eg l big (Au l big (Eg l big 0 (k+1))) (Eg l big 0 (k+1))-1
theorem S9 {c:Int}(h:c=32∨c=9):Bf c big=0:=by unfold Bf;rw[if_pos h]
theorem Pd {c:Int}(h:¬(c=32∨c=9))(h2:big=true∨(97≤c∧c≤122)∨(65≤c∧c≤90)∨(48≤c∧c≤57)∨c=95∨128≤c):Bf c big=1:=by unfold Bf;rw[if_neg h,if_pos h2]
theorem cV {c:Int}(h:¬(c=32∨c=9))(h2:¬(big=true∨(97≤c∧c≤122)∨(65≤c∧c≤90)∨(48≤c∧c≤57)∨c=95∨128≤c)):Bf c big=2:=by unfold Bf;rw[if_neg h,if_neg h2]
theorem Tf (c:Int)(big:Bool)(w:World):Calls Tryz.prog 118 #[.int .i64 c,.bool big] w fun e w'=>e=.returned (.int .i64 (Bf c big))∧w'=w:=by
 by_cases h1:c=32
 ·subst h1
  rw[S9 (.inl rfl)];exact I23
 by_cases h2:c=9
 ·subst h2
  rw[S9 (.inr rfl)];exact I23
 have b1:(c==32)=false:=by simpa using h1
 have b2:(c==9)=false:=by simpa using h2
 have HN:Hid (¬(c=32∨c=9)):=A4 (by omega)
 clear h1 h2;rcases big with _|_
 ·by_cases h3:c=95
  ·subst h3
   rw[Pd HN.out (by omega)]
   exact I23
  have b3:(c==95)=false:=by simpa using h3
  have HF:Hid (∀v,v=Bf c false→v=Bf c false):=A4 (fun _ h=>h)
  have H3:=A4 h3;clear h3;go_enter Tryz.func118,Tryz.ntmps118
  go_wp2_with fail
  all_goals
   go_ret
   have h3:=H3.out;refine⟨Hj ?_,rfl⟩
   first
    |exact(Pd HN.out (by omega)).symm
    |exact(cV HN.out (by simp;omega)).symm
 ·rw[Pd HN.out (.inl rfl)]
  exact I23
theorem Zo (c:Int)(big:Bool)(w:World)(n:Nat):Calls Tryz.prog 118 #[.int .i64 c,.bool big] (w.drewN n) fun e w''=>e=.returned (.int .i64 (Bf c big))∧∃m,w''=w.drewN m:=
 (Tf c big _).mono fun _ _ ⟨h1,h2⟩=>⟨h1,n,h2⟩
theorem Gi (hl:Bi w A n c l)(k:Int)(h1 : -4611686018427387904≤k)(h2:k≤4611686018427387904):
 Calls Tryz.prog 108 #[.agg #[.slice A n c,.bool big],.int .i64 k] w fun e w'=>e=.returned (.int .i64 (Au l big k))∧Al w w':=by
 have hlen:=A4 hl.len;have hnc:=hl.ncap;have hcm:=hl.nmax;unfold maxLen at hcm;by_cases hin:0≤k∧k<n
 ·obtain⟨kn,rfl⟩:=Int.eq_ofNat_of_zero_le hin.1
  obtain⟨ad,rfl,hc⟩:=hl.at_ (k:=kn) (by omega)
  have hk:Hid (Au l big kn=Bf (gI l kn) big):=Ft (by rw[hlen.out];omega)
  have hkn:kn<n:=by omega
  have hck:=(Al.alloc w (.cells #[.slice (some ad) n c,.bool big] 180)).cell (hc kn hkn);clear hc hin;rw[hk.out];go_enter Tryz.func108,Tryz.ntmps108
  go_wp2_with fail
  go_quiet ((go_at_call 118;exact Zo _ _ _ _))
  go_wp2_with fail
  go_ret
  exact⟨rfl,(Al.alloc _ _).to_drewN _⟩
 ·have hk:Hid (Au l big k = -1):=Kh (by rw[hlen.out];omega)
  rw[hk.out];go_enter Tryz.func108,Tryz.ntmps108
  go_wp2_with fail
  all_goals
   go_ret
   exact⟨rfl,Al.alloc _ _⟩
theorem Ls {k kind:Int}(h:Au l big k=kind)(h0:0≤kind):0≤k∧k<l.length:=by
 unfold Au at h;split at h
 ·assumption
 ·omega
theorem Mq (hl:Bi w A n c l)(k:Nat)(kind:Int)(h0:0≤kind)(h1:k≤n+1)(hn:n≤4096):
 Calls Tryz.prog 107 #[.agg #[.slice A n c,.bool big],.int .i64 k,.int .i64 1,.int .i64 kind] w fun e w'=>e=.returned (.int .i64 (Eg l big kind k))∧Al w w':=by
 have hlen:=A4 hl.len;have hb0:=An.new w 180 #[.slice A n c,.bool big];go_enter Tryz.func107,Tryz.ntmps107
 go_wp2_with fail
 go_loopw [1] (fun i wr=>∃j:Nat,k≤j∧j≤n+1∧i=.int .i64 j∧Hid (∀i:Nat,k≤i→i<j→Au l big i=kind)∧An wr w.heap.size 180 #[.slice A n c,.bool big]∧Al w wr) (fun i _=>n+1-(intOf i).toNat)
 case atStart=>exact⟨k,Ai _,h1,rfl,fun i h1 h2=>absurd h2 (by omega),hb0,Al.alloc _ _⟩
 case round=>
  clear hb0;obtain⟨j,hj,hj2,rfl,hall,hb,he⟩:=hrel;have c0:=hb.cell 0;have c1:=hb.cell 1;simp only[Ag,Ae,Af]at c0 c1;have HK:=A4 (Gi (big:=big) (hl.ext he) j (by omega) (by omega))
  go_wp2_with fail
  refine HK.out.mono ?_
  rintro e w1 ⟨rfl,he1⟩;clear HK c0 c1;by_cases heq:Au l big j=kind
  ·have b1:(Au l big j==kind)=true:=by simpa using heq
   have hlt:=(Ls heq h0).2;rw[hlen.out]at hlt;have HQ:=A4 heq;clear heq;go_wp2_with fail
   go_roundw
   case rel=>exact⟨j+1,by omega,by omega,by go_num,fun i h1 h2=>by
    rcases At i j with h3|h3
    ·exact hall.out i h1 h3
    ·obtain rfl:i=j:=by omega
     exact HQ.out,hb.ext he1,he.trans he1⟩
   case measure=>simp[intOf];omega
  ·have b1:(Au l big j==kind)=false:=by simpa using heq
   have HQ:=A4 heq;clear heq;go_wp2_with fail
   go_ret
   exact⟨Hj (by rw[Pz h0 hj hall.out HQ.out]),he.trans he1⟩
theorem Z4 (hl:Bi w A n c l)(m:Nat)(kind:Int)(h0:0≤kind)(h1:m≤n+1)(hn:n≤4096):
 Calls Tryz.prog 107 #[.agg #[.slice A n c,.bool big],.int .i64 ((m:Int)-1),.int .i64 (-1),.int .i64 kind] w fun e w'=>e=.returned (.int .i64 ((Ga l big kind m:Int)-1))∧Al w w':=by
 have hlen:=A4 hl.len;have hb0:=An.new w 180 #[.slice A n c,.bool big];go_enter Tryz.func107,Tryz.ntmps107
 go_wp2_with fail
 go_loopw [1] (fun i wr=>∃j:Nat,j≤m∧i=.int .i64 ((j:Int)-1)∧Hid (∀i:Nat,j≤i→i<m→Au l big i=kind)∧An wr w.heap.size 180 #[.slice A n c,.bool big]∧Al w wr) (fun i _=>(intOf i+1).toNat)
 case atStart=>exact⟨m,Ai _,rfl,fun i h1 h2=>absurd h2 (by omega),hb0,Al.alloc _ _⟩
 case round=>
  clear hb0;obtain⟨j,hj,rfl,hall,hb,he⟩:=hrel;have c0:=hb.cell 0;have c1:=hb.cell 1;simp only[Ag,Ae,Af]at c0 c1;have HK:=A4 (Gi (big:=big) (hl.ext he) ((j:Int)-1) (by omega) (by omega))
  go_wp2_with fail
  refine HK.out.mono ?_
  rintro e w1 ⟨rfl,he1⟩;clear HK c0 c1;by_cases heq:Au l big ((j:Int)-1)=kind
  ·have b1:(Au l big ((j:Int)-1)==kind)=true:=by simpa using heq
   have hlt:=(Ls heq h0).1;have HQ:=A4 heq;clear heq;go_wp2_with fail
   go_roundw
   case rel=>exact⟨j-1,by omega,by
    congr 1;omega,fun i h1 h2=>by
    rcases At i j with h3|h3
    ·obtain rfl:i=j-1:=by omega
     rw[←HQ.out];congr 1;omega
    ·exact hall.out i h3 h2,hb.ext he1,he.trans he1⟩
   case measure=>simp[intOf];omega
  ·have b1:(Au l big ((j:Int)-1)==kind)=false:=by simpa using heq
   have HQ:=A4 heq;clear heq;go_wp2_with fail
   go_ret
   exact⟨Hj (by rw[Xj hj hall.out (.inr HQ.out)]),he.trans he1⟩
theorem fO {A:Option Addr}{n c:Nat}{k:Int}{w:World}(hnc:n≤c)(hcm:c≤maxLen):
 Calls Tryz.prog 106 #[.slice A n c,.int .i64 k] w fun e w'=>e=.returned (.int .i64 (if n>4096 then 2 else if k<0∨k>n then 1 else 0))∧w'=w:=by
 unfold maxLen at hcm;have HF:Hid (∀v:Int,(n>4096→v=2)→(n≤4096→(k<0∨k>n)→v=1)→(n≤4096→0≤k→k≤n→v=0)→v=(if n>4096 then 2 else if k<0∨k>n then 1 else 0)):=A4 (fun v h1 h2 h3=>by
  split
  ·exact h1 ‹_›
  ·split
   ·exact h2 (by omega) ‹_›
   ·exact h3 (by omega) (by omega) (by omega))
 go_enter Tryz.func106,Tryz.ntmps106
 go_wp2_with fail
 all_goals (go_ret;exact⟨rfl,rfl⟩)
theorem lL (hl:Bi w A n c l)(hn:n≤4096)(hk:k≤n):
 Calls Tryz.prog 159 #[.slice A n c,.int .i64 k,.bool big] w fun e w'=>e=.returned (.tuple #[.int .i64 (Fd l k big),.int .i64 0])∧Al w w':=by
 have N0:=trivial;exact yI
theorem Zz (hk:k≤l.length):
 k≤Fd l k big∧Fd l k big≤l.length∧(Fd l k big=k→k=l.length∨k<l.length∧Au l big k≠0∧¬0<Au l big k)∧
 ∃m,k≤m∧m≤Fd l k big∧(∀i,k≤i→i<m→Au l big i=Au l big k∧0<Au l big k)∧(0<Au l big k→Au l big m≠Au l big k)∧(∀i,m≤i→i<Fd l k big→Au l big i=0)∧Au l big (Fd l k big)≠0:=by
 unfold Fd;split
 ·rename_i hp
  obtain⟨a1,a2,a3,a4⟩:=F7 (l:=l) (big:=big) (kind:=Au l big k) (by omega) k
  have hlt:=(Ls (k:=k) rfl (show 0≤Au l big k by omega)).2
  have hle:Eg l big (Au l big k) k≤l.length:=by rcases a4 with a4|a4<;>omega
  obtain⟨b1,b2,b3,b4⟩:=F7 (l:=l) (big:=big) (kind:=0) (by omega) (Eg l big (Au l big k) k)
  have hne:Eg l big (Au l big k) k≠k:=fun e=>a3 (by rw[e])
  refine⟨by omega,by rcases b4 with b4|b4<;>omega,fun e=>by omega,_,a1,b1,fun i h1 h2=>⟨a2 i h1 h2,hp⟩,fun _=>a3,b2,b3⟩
 ·rename_i hp
  obtain⟨b1,b2,b3,b4⟩:=F7 (l:=l) (big:=big) (kind:=0) (by omega) k
  refine⟨b1,by rcases b4 with b4|b4<;>omega,fun e=>?_,k,Nat.le_refl _,b1,fun i h1 h2=>absurd h2 (by omega),fun h=>absurd h hp,b2,b3⟩
  rcases Nat.lt_or_ge k l.length with h|h
  ·rw[e]at b3
   exact .inr ⟨h,b3,hp⟩
  ·exact .inl (by omega)
theorem Z8 (c:Int)(big:Bool):0≤Bf c big:=(Le c big).1
theorem Uf (h:k<l.length)(h0:Au l big k≠0):0<Au l big k:=by
 rw[Ft h]at h0 ⊢;have:=Z8 (gI l k) big;omega
end
