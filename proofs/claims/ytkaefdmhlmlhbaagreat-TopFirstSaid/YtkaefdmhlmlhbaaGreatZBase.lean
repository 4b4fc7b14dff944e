/-
  Part ZBase.
-/
import Derived.Test.YtkaefdmhlmlhbaaGreatZFb
import Derived.Test.YtkaefdmhlmlhbaaGreatRows
import Derived.WalkKit
import Derived.ProofKit
import Derived.OpenShut
import Derived.WalkLawsBesides
import Derived.WalkSpells
import Derived.Below
import Derived.Laws.OwnMore
import Derived.Deep.AppendLies
import Derived.Deep.Draws
import Derived.Laws.Rows
import Derived.Maps.AppendAt
import Derived.RegionTactic
import Derived.OwnWalk
import Derived.ChangeSame
import Derived.Deep.QuietTactic
import Derived.BigQuiet
import Derived.Lib.Hide
import Derived.Deep.OwnRows
set_option maxRecDepth 100000
set_option maxHeartbeats 16000000
set_option linter.unusedVariables false
set_option linter.unusedSimpArgs false
namespace Go.Proofs.YtkaefdmhlmlhbaaGreat
open Go.RowKit
open _root_.Go.Proofs.Tryz
open _root_.List renaming cons_append→Pp,getElem?_cons_succ→Ag,getElem?_cons_zero→Af,getElem?_take→Po,getElem?_toArray→Ah,take_of_length_le→Bi,take_succ_eq_append_getElem→Hu
open _root_.Nat renaming eq_zero_or_pos→Br,le_refl→Aj,le_trans→Ar,lt_or_ge→Ay,zero_le→B8
open Value renaming int→Av,slice→Ak
open Region renaming wanted→Bu
section
variable {l p s m l':List Int}{w x w':World}{A B:Option Addr}{Q:Exit→Act→World→Prop}{big:Bool}{n c i k j b:Nat}{K:Act→World→Prop}{ops:Array Oper}{P:Program}{a:Act}{o:Oper}{E:Prop}{v:Value}{kind:Int}
theorem A6 {p:Prop}(h:p):Go.RowKit.Hid p:=h
open Go.RowKit Go.WideShapes Go.ChangeShapes
instance :Coe Int Value:=⟨.int .i64⟩
instance :Coe Bool Value:=⟨.bool⟩
instance :Coe Unit Value:=⟨fun _=>.slice none 0 0⟩
instance :Coe World Nat:=⟨fun w=>w.heap.size⟩
instance :Coe Nat Value:=⟨fun n=>.int .i64 n⟩
instance (p:Nat):CoeDep (Option Nat) (some p) Value:=⟨.pointer (some ⟨p,0,none⟩)⟩
def An (w w':World):Prop:=Below w.heap.size w w'
theorem An.refl (w:World):An w w:=Below.refl _ _
theorem An.trans {a b c:World}(h:An a b)(k:An b c):An a c:=Below.trans h (Below.mono k h.size)
theorem An.drew (w:World):An w w.drew:=(Below.refl _ _).drew
theorem An.drewN (w:World)(n:Nat):An w (w.drewN n):=⟨rfl,rfl,rfl,Aj _,fun _ _=>rfl⟩
theorem An.alloc (w:World)(o:Obj):An w (w.alloc o):=(Below.refl _ _).alloc (Aj _) o
theorem An.setCell (h:An w x){p:Addr}(hp:w.heap.size≤p.block)(u:Value):An w (x.setCell p u):=Below.setCell h hp u
theorem An.to_drewN (h:An w x)(n:Nat):An w (x.drewN n):=h.trans (An.drewN _ _)
theorem An.to_drew (h:An w x):An w x.drew:=h.trans (An.drew _)
theorem An.to_alloc (h:An w x)(o:Obj):An w (x.alloc o):=h.trans (An.alloc _ _)
theorem An.hsize (h:An w w'):w.heap.size≤w'.heap.size:=h.size
theorem An.cell (h:An w w'){p:Addr}(hc:w.cell? p=some v):w'.cell? p=some v:=
 (Below.cell h (World.block_lt_of_cell? w p hc)).trans hc
theorem Qv (w:World)(a b:Nat):(w.drewN a).drewN b=w.drewN (a+b):=World.drewN_drewN w a b
theorem Gt {a b:Bool}(h:a=b):Ending.returned (.bool a)=.returned (.bool b):=by rw[h]
theorem Ju {k:IntKind}{a b:Int}(h:a=b):Ending.returned (.int k a)=.returned (.int k b):=by rw[h]
structure Rf (w0:World) where
 w:World
 h:An w0 w
theorem Qy {id:Nat}{l:List Oper}(hm:P.follows .mixedOrders=true)(hB:Region.lexB .any l.toArray=true)
 (h:wpQuiet P l.toArray (fun w'=>∃i:Rf w,w'=i.w) (fun a'=>∀w',(∃i:Rf w,w'=i.w)→Q .normal a' w') l a):(Code.region id l.toArray true).wp P Q a w:=
 wp_region_quiet (C:=fun w'=>∃i:Rf w,w'=i.w) hm hB ⟨⟨w.drew,An.drew w⟩,rfl⟩ (by simpa using h)
theorem Sx {f:FuncId}{args:Array Value}{i:Rf w}(h:Calls P f args i.w fun e w'=>e=.returned v∧An i.w w'):
 Calls P f args i.w fun e w''=>e=.returned v∧∃j:Rf w,w''=j.w:=
 h.mono fun _ w'' ⟨he,hx⟩=>⟨he,⟨w'',i.h.trans hx⟩,rfl⟩
theorem Rf.cell {w0:World}(i:Rf w0){p:Addr}(h:w0.cell? p=some v):i.w.cell? p=some v:=i.h.cell h
theorem Gu (a:Addr)(i j:Nat):(a.add i).add j=a.add (i+j):=by
 unfold Addr.add;by_cases hi:i=0<;>by_cases hj:j=0<;>simp[hi,hj,Nat.add_assoc]
theorem Ei (a:Addr):a.add 0=a:=by unfold Addr.add;simp
def Rd (w:World)(z:Nat)(A:Option Addr)(n c:Nat)(xs:List Value):Prop:=
 xs.length=n*z∧n≤c∧c≤maxLen∧(0<n→∃ad,A=some ad∧∀j u,xs[j]? = some u→w.cell? (ad.add j)=some u)
section
variable {w w':World} {z n c:Nat} {A:Option Addr} {xs:List Value}
theorem Rd.len (h:Rd w z A n c xs):xs.length=n*z:=h.1
theorem Rd.ncap (h:Rd w z A n c xs):n≤c:=h.2.1
theorem Rd.nmax (h:Rd w z A n c xs):c≤maxLen:=h.2.2.1
theorem Rd.ext (h:Rd w z A n c xs)(he:An w w'):Rd w' z A n c xs:=by
 obtain⟨h1,h2,h3,h4⟩:=h;refine⟨h1,h2,h3,fun hn=>?_⟩
 obtain⟨ad,e,hc⟩:=h4 hn;exact⟨ad,e,fun j u hu=>he.cell (hc j u hu)⟩
theorem Rd.keep (h:Rd w z A n c xs)(hk:∀p u,w.cell? p=some u→w'.cell? p=some u):Rd w' z A n c xs:=by
 obtain⟨h1,h2,h3,h4⟩:=h;refine⟨h1,h2,h3,fun hn=>?_⟩
 obtain⟨ad,e,hc⟩:=h4 hn;exact⟨ad,e,fun j u hu=>hk _ _ (hc j u hu)⟩
theorem Rd.at_ (h:Rd w z A n c xs){k:Nat}(hk:k<n):∃ad,A=some ad∧∀j u,xs[j]? = some u→w.cell? (ad.add j)=some u:=h.2.2.2 (by omega)
theorem Rd.none_ (w:World)(z:Nat):Rd w z none 0 0 []:=⟨by simp,Aj _,Nat.zero_le _,fun h=>absurd h (by omega)⟩
theorem Rd.cut (h:Rd w z A n c xs){k m:Nat}(hk:k≤m)(hm:m≤n):
 Rd w z (if c=k then A else A.map (·.add (k*z))) (m-k) (c-k) ((xs.drop (k*z)).take ((m-k)*z)):=by
 obtain⟨h1,h2,h3,h4⟩:=h;refine⟨?_,by omega,by omega,fun hn=>?_⟩
 ·rw[List.length_take,List.length_drop,h1,←Nat.sub_mul]
  exact Nat.min_eq_left (Nat.mul_le_mul_right _ (by omega))
 ·obtain⟨ad,rfl,hc⟩:=h4 (by omega)
  rw[if_neg (by omega)]
  refine⟨ad.add (k*z),rfl,fun j u hu=>?_⟩
  rw[Gu];refine hc _ u ?_
  rw[Po]at hu;split at hu
  ·rw[←hu,List.getElem?_drop]
  ·cases hu
end
def gI (l:List Int)(k:Nat):Int:=l[k]?.getD 0
def Bj (w:World)(A:Option Addr)(n c:Nat)(l:List Int):Prop:=Rd w 1 A n c (l.map (Av .i64))
theorem Bj.len (h:Bj w A n c l):l.length=n:=by
 have:=Rd.len h;simpa using this
theorem Bj.ext (h:Bj w A n c l)(he:An w w'):Bj w' A n c l:=Rd.ext h he
theorem Bj.at_ (h:Bj w A n c l)(hk:k<n):
 ∃ad,A=some ad∧∀j,j<n→w.cell? (ad.add j)=some (.int .i64 (gI l j)):=by
 obtain⟨ad,e,hc⟩:=Rd.at_ h hk;refine⟨ad,e,fun j hj=>hc j _ ?_⟩
 have hl:=h.len;simp[gI,show j<l.length by omega]
theorem Bj.cut (h:Bj w A n c l){k m:Nat}(hk:k≤m)(hm:m≤n):
 Bj w (if c=k then A else A.map (·.add k)) (m-k) (c-k) ((l.drop k).take (m-k)):=by
 have:=Rd.cut h hk hm;unfold Bj;rw[List.map_take,List.map_drop]
 simpa using this
theorem Bj.front (h:Bj w A n c l)(hk:k≤n):Bj w A k c (l.take k):=by
 have h1:=h.len;have h2:=Rd.ncap h;refine⟨by simp;omega,by omega,Rd.nmax h,fun hn=>?_⟩
 obtain⟨ad,e,hc⟩:=Rd.at_ h (k:=0) (by omega)
 refine⟨ad,e,fun j u hu=>hc j u ?_⟩
 rw[List.map_take,Po]at hu;split at hu
 ·exact hu
 ·cases hu
theorem Bj.back {a:Addr}(h:Bj w (some a) n c l)(hk:k≤n):Bj w (some (a.add k)) (n-k) (c-k) (l.drop k):=by
 have h1:=h.len;have h2:=Rd.ncap h;have h3:=Rd.nmax h;refine⟨by simp;omega,by omega,by omega,fun hn=>⟨_,rfl,fun j u hu=>?_⟩⟩
 obtain⟨ad,e,hc⟩:=Rd.at_ h (k:=0) (by omega)
 injection e with e;subst e;rw[Gu];refine hc _ u ?_
 rw[←hu,List.map_drop,List.getElem?_drop]
theorem Bj.none_ (w:World):Bj w none 0 0 []:=Rd.none_ w 1
theorem Bj.ncap (h:Bj w A n c l):n≤c:=Rd.ncap h
theorem Bj.nmax (h:Bj w A n c l):c≤maxLen:=Rd.nmax h
theorem Bj.one (_:Bj w A n c l):∀u∈l.map (Av .i64),u.oneCell'=true:=ints_oneCell _ _
def Bd (w:World)(base e z:Nat)(A:Option Addr)(n c:Nat)(xs:List Value):Prop:=w.ownsRow base e z (.slice A n c) n xs
def Ba (w:World)(base:Nat)(A:Option Addr)(n c:Nat)(l:List Int):Prop:=Bd w base 3 1 A n c (l.map (Av .i64))
section
variable {w w':World} {base e z n c:Nat} {A:Option Addr} {xs:List Value} {l:List Int}
theorem Bd.rd (h:Bd w base e z A n c xs):Rd w z A n c xs:=by
 obtain⟨h1,h2⟩:=h;rcases h2 with⟨hv,rfl⟩|⟨g,cap,cur,hv,hb,hg,hn,mx,wm,KK⟩
 ·injection hv with hA _ hc
  subst hA;subst hc;obtain rfl:xs=[]:=List.eq_nil_of_length_eq_zero (by simpa using h1)
  exact Rd.none_ w z
 ·injection hv with hA _ hc
  subst hA;subst hc;refine⟨h1,hn,mx,fun _=>⟨_,rfl,?_⟩⟩
  have ac:w.ownsRow base e z (.slice (some ⟨g,0,none⟩) n c) n xs:=⟨h1,.inr ⟨g,c,cur,rfl,hb,hg,hn,mx,wm,KK⟩⟩;exact ac.cells (g:=g) rfl
theorem Ba.ints (h:Ba w base A n c l):Bj w A n c l:=Bd.rd h
theorem Bd.nil (w:World)(base e z:Nat):Bd w base e z none 0 0 []:=World.ownsRow_nil w base e z
theorem Ba.nil (w:World)(base:Nat):Ba w base none 0 0 []:=World.ownsRow_nil w base _ _
theorem Bd.ext (h:Bd w base e z A n c xs)(he:An w w'):Bd w' base e z A n c xs:=by
 obtain⟨h1,h2⟩:=h;refine⟨h1,?_⟩
 rcases h2 with h2|⟨g,cap,cur,hv,hb,hg,r⟩
 ·exact .inl h2
 ·exact .inr ⟨g,cap,cur,hv,hb,(Below.block he g (Array.getElem?_eq_some_iff.1 hg).1).trans hg,r⟩
theorem Ba.ext (h:Ba w base A n c l)(he:An w w'):Ba w' base A n c l:=Bd.ext h he
theorem Bd.lower {iq:Nat}(h:Bd w base e z A n c xs)(hb:iq≤base):Bd w iq e z A n c xs:=by
 obtain⟨h1,h2⟩:=h;refine⟨h1,?_⟩
 rcases h2 with h2|⟨g,cap,cur,hv,EZ,r⟩
 ·exact .inl h2
 ·exact .inr ⟨g,cap,cur,hv,Ar hb EZ,r⟩
theorem Bd.len (h:Bd w base e z A n c xs):xs.length=n*z:=h.1
end
section
variable {w w':World} {base e z n c:Nat} {A:Option Addr} {xs:List Value}
theorem Bd.pop {k:Nat}(h:Bd w base e 1 A n c xs)(hk:k≤n)(hn:0<n):Bd w base e 1 A k c (xs.take k):=by
 obtain⟨h1,h2⟩:=h;rcases h2 with⟨_,h0⟩|⟨g,cap,cur,hv,hb,hg,aw,mx,wm,ht⟩
 ·omega
 ·injection hv with hA _ hc
  subst hA;subst hc;refine⟨by simp;omega,.inr ⟨g,c,cur,rfl,hb,hg,by omega,mx,wm,?_⟩⟩
  rw[←ht,List.take_take]
  congr 1
  omega
theorem Bd.kept (h:Bd w base e z A n c xs){row:Option Nat}(hg:w.grownBy w' row)(ai:(Ak A n c).ownBlock=none∨(Ak A n c).ownBlock≠row):Bd w' base e z A n c xs:=
 World.ownsRow.kept h hg ai
theorem Bd.setCell (h:Bd w base e z A n c xs){p:Addr}(hp:p.block<base)(u:Value):Bd (w.setCell p u) base e z A n c xs:=ownsRow_setCell_below h hp u
theorem Bd.blk (h:Bd w base e z A n c xs):∀g,(Ak A n c).ownBlock=some g→base≤g∧g<w.heap.size:=World.ownsRow.lt h
end
theorem An.grown {w0 w w':World}{base e z n:Nat}{xs:List Value}(h:An w0 w)(hg:w.grownBy w' v.ownBlock)(ac:w.ownsRow base e z v n xs)(hb:w0.heap.size≤base):An w0 w':=
 Below.grown h hg h.size (fun k hk=>Ar hb (ac.lt k hk).1)
def Aq (w:World)(g:Nat)(t:TypeId)(cs:Array Value):Prop:=w.heap[g]? = some (.cells cs t (0,0))
section
variable {w w':World} {g:Nat} {t:TypeId} {cs:Array Value}
theorem Aq.lt (h:Aq w g t cs):g<w.heap.size:=by
 rcases Nat.lt_or_ge g w.heap.size with ae|ku
 ·exact ae
 ·unfold Aq at h;rw[Array.getElem?_eq_none ku]at h;cases h
theorem Aq.cell (h:Aq w g t cs)(i:Nat):w.cell? ⟨g,i,none⟩=cs[i]? := cell_of_row w g i cs t (0,0) h
theorem Aq.frozen (h:Aq w g t cs)(i:Nat):w.frozen? ⟨g,i,none⟩=false:=by
 unfold Aq at h;simp[World.frozen?,h]
theorem Aq.new (w:World)(t:TypeId)(cs:Array Value):Aq (w.alloc (.cells cs t)) w.heap.size t cs:=heap_alloc_new w _
theorem Aq.ext (h:Aq w g t cs)(he:An w w'):Aq w' g t cs:=(Below.block he g h.lt).trans h
theorem Aq.grown (h:Aq w g t cs){row:Option Nat}(hb:w.grownBy w' row)(hg:some g≠row):Aq w' g t cs:=(hb.block g h.lt hg).trans h
theorem Aq.drewN (h:Aq w g t cs)(n:Nat):Aq (w.drewN n) g t cs:=h
theorem Aq.set_ (h:Aq w g t cs)(i:Nat)(u:Value):Aq (w.setCell ⟨g,i,none⟩ u) g t (cs.setIfInBounds i u):=by
 unfold Aq at h ⊢;simp[World.setCell,Array.getElem?_modify,h]
end
theorem Aq.ints {g:Nat}{t:TypeId}{n:Nat}(h:Aq w g t (l.map (Av .i64)).toArray)(hn:n=l.length)(hm:n≤maxLen):
 Bj w (some ⟨g,0,none⟩) n n l:=by
 subst hn;refine⟨by simp,Aj _,hm,fun _=>⟨_,rfl,fun j u hu=>?_⟩⟩
 have:(⟨g,0,none⟩:Addr).add j=⟨g,j,none⟩:=by simp[Addr.add_lit]
 rw[this,h.cell j]
 simpa using hu
theorem X3 {g t:Nat}(h:Aq w g t (l.map (Av .i64)).toArray)(hk:k<l.length):w.cell? ⟨g,k,none⟩=some (.int .i64 (gI l k)):=by
 rw[h.cell k];simp[gI,hk]
theorem U8 {g t:Nat}(h:Aq w g t (l.map (Av .i64)).toArray)(k:Nat)(u:Int):Aq (w.setCell ⟨g,k,none⟩ u) g t ((l.set k u).map (Av .i64)).toArray:=by
 have:=h.set_ k (.int .i64 u);rw[List.map_set,←List.setIfInBounds_toArray];exact this
theorem U3 (n:Nat):madeCells (Av .i64 0).cells n=((List.replicate n (0:Int)).map (Av .i64)).toArray:=by
 apply Array.ext
 ·simp[size_madeCells]
 ·intro i h1 h2
  simp[madeCells,Value.cells,Nat.mod_one]
section
variable {P:Program} {ops:Array Oper} {rest:List Oper} {o:Oper} {a:Act} {Q:Exit→Act→World→Prop}
theorem Eh {w:World}(dn:o.guard=none)(s x:Operand)(t:TypeId)
 (ho:o.op=.call { callee:=.builtin .append,args:=#[s,x],argTypes:=#[t,t] })
 (w0:World) (base e:Nat) (i:TypeInfo) (zv:Value) (z bytes:Nat) (ht:P.underlying t=some (.slice e)) (hi:P.info? e=some i) (hz:i.zero=some zv)
 (hsize:i.size=z) (IP:i.bytes=bytes) (IQ:zv.cells.size=z) (dl:0<z)
 (A:Option Addr) (n c:Nat) (xs:List Value) (hs:a.eval s=.slice A n c) (ac:Bd w base e z A n c xs)
 (B:Option Addr) (m d:Nat) (news:List Value) (hx:a.eval x=.slice B m d) (hr:Rd w z B m d news) (h1:∀u∈news,u.oneCell'=true)
 (IS:n+m≤maxLen) (jg:(n+m)*bytes≤140737488355328) (he:An w0 w) (hb:w0.heap.size≤base) (l8:base≤w.heap.size)
 (h:∀A' c' w',Bd w' base e z A' (n+m) c' (xs++news)→w.grownBy w' (Ak A n c).ownBlock→((Ak A' (n+m) c').ownBlock=(Ak A n c).ownBlock∨(Ak A' (n+m) c').ownBlock=some w.heap.size)→An w0 w'→
  wpList P ops Q rest (a.put o.dst (.slice A' (n+m) c')) w'):wpList P ops Q (o::rest) a w:=by
 have N1:=trivial;exact K16
theorem Tc {w w':World}(dn:o.guard=none)(s x:Operand)(t t':TypeId)
 (ho:o.op=.call { callee:=.builtin .append,args:=#[s,x],argTypes:=#[t,t'] }) (u v r:Value) (hs:a.eval s=u) (hx:a.eval x=v)
 (de:(Builtin.append_ #[t,t'] o.type #[u,v]).run P w=.ok r w') (h:wpList P ops Q rest (a.put o.dst r) w'):wpList P ops Q (o::rest) a w:=by
 refine wpList_plain dn fun K hK=>?_
 unfold Oper.wp execOp;simp only[ho,resolve,invoke,builtin,Sem.run_bind,Sem.run_pure,Result.andThen_ok,List.map_toArray,List.map_cons,List.map_nil,hs,hx,de];exact hK _ _ h
theorem C9 {w1:World}(dn:o.guard=none)(s x:Operand)(t:TypeId)
 (ho:o.op=.call { callee:=.builtin .append,args:=#[s,x],argTypes:=#[t,t] })
 (w0:World) (base e:Nat) (i:TypeInfo) (zv:Value) (z bytes:Nat) (ht:P.underlying t=some (.slice e)) (hi:P.info? e=some i) (hz:i.zero=some zv)
 (hsize:i.size=z) (IP:i.bytes=bytes) (IQ:zv.cells.size=z) (dl:0<z)
 (A:Option Addr) (n c:Nat) (xs:List Value) (hs:a.eval s=.slice A n c) (ac:Bd w1 base e z A n c xs)
 (us:Array Value) (hu:us.size=z) (h1:∀u∈us.toList,u.oneCell'=true) (hx:a.eval x=.slice (some ⟨w1,0,none⟩) 1 1)
 (IS:n+1≤maxLen) (jg:(n+1)*bytes≤140737488355328) (he:An w0 w1) (hb:w0.heap.size≤base) (l8:base≤w1.heap.size)
 (h:∀A' c' w',Bd w' base e z A' (n+1) c' (xs++us.toList)→w1.grownBy w' (Ak A n c).ownBlock→((Ak A' (n+1) c').ownBlock=(Ak A n c).ownBlock∨∃g,w1.heap.size≤g∧(Ak A' (n+1) c').ownBlock=some g)→An w0 w'→
  wpList P ops Q rest (a.put o.dst (.slice A' (n+1) c')) w'):wpList P ops Q (o::rest) a (w1.alloc (.cells us e)):=by
 have N0:=trivial;exact K45
end
theorem Cd:(prog.info? 3).map (fun i=>(i.zero,i.size,i.bytes))=some (some (.int .i64 0),1,8):=by kernel_rfl
def Uv (l m:List Int):Bool:=decide (l=m)
theorem Q5:Uv l m=true↔l=m:=by simp[Uv]
theorem Zr:Uv l m=false↔l≠m:=by simp[Uv]
theorem bF {n k:Nat}(hl:l.length=n)(hm:m.length=n)(hk:k<n)(h:l.take k=m.take k)(he:gI l k=gI m k):l.take (k+1)=m.take (k+1):=by
 have h1:k<l.length:=by omega
 have h2:k<m.length:=by omega
 rw[Hu h1,Hu h2,h];simp[gI,h1,h2]at he;rw[he]
theorem eG {n:Nat}(hl:l.length=n)(hm:m.length=n)(h:l.take n=m.take n):l=m:=by
 rwa[Bi (by omega),Bi (by omega)]at h
theorem So (dn:o.guard=none)(s x:Operand)(t:TypeId)
 (ho:o.op=.call { callee:=.builtin .append,args:=#[s,x],argTypes:=#[t,t] })
 (w0:World) (base e:Nat) (i:TypeInfo) (zv:Value) (z bytes:Nat) (ht:P.underlying t=some (.slice e)) (hi:P.info? e=some i) (hz:i.zero=some zv)
 (hsize:i.size=z) (IP:i.bytes=bytes) (IQ:zv.cells.size=z) (dl:0<z)
 (A:Option Addr) (n c:Nat) (xs:List Value) (hs:a.eval s=.slice A n c) (ac:Bd w base e z A n c xs)
 (B:Option Addr) (m d:Nat) (news:List Value) (hx:a.eval x=.slice B m d) (hr:Rd w z B m d news) (h1:∀u∈news,u.oneCell'=true)
 (IS:n+m≤maxLen) (jg:(n+m)*bytes≤140737488355328) (he:An w0 w) (hb:w0.heap.size≤base) (l8:base≤w.heap.size)
 (h:∀A' c' w',Bd w' base e z A' (n+m) c' (xs++news)→w.grownBy w' (Ak A n c).ownBlock→((Ak A' (n+m) c').ownBlock=(Ak A n c).ownBlock∨(Ak A' (n+m) c').ownBlock=some w.heap.size)→An w0 w'→
  K (a.put o.dst (.slice A' (n+m) c')) w'):if Bu o (yielded ops a.tmps)=true then Oper.wp P o a w K Q else E:=by
 have N0:=trivial;exact K16
theorem Kh (dn:o.guard=none)
 (f:FuncId) (args:Array Value) (de:(execOp a.eval o).run P w=.ok (.enter f args) w) (R:Value→World→Prop)
 (hc:Calls P f args w fun e w'=>∃v,e=.returned v∧R v w') (h:∀v w',R v w'→K (a.put o.dst v) w'):if Bu o (yielded ops a.tmps)=true then Oper.wp P o a w K Q else E:=by
 have hw:Bu o (yielded ops a.tmps)=true:=by simp[Bu,dn]
 rw[if_pos hw];exact I17
theorem Pz {w1:World}(dn:o.guard=none)(s x:Operand)(t:TypeId)
 (ho:o.op=.call { callee:=.builtin .append,args:=#[s,x],argTypes:=#[t,t] })
 (w0:World) (base e:Nat) (i:TypeInfo) (zv:Value) (z bytes:Nat) (ht:P.underlying t=some (.slice e)) (hi:P.info? e=some i) (hz:i.zero=some zv)
 (hsize:i.size=z) (IP:i.bytes=bytes) (IQ:zv.cells.size=z) (dl:0<z)
 (A:Option Addr) (n c:Nat) (xs:List Value) (hs:a.eval s=.slice A n c) (ac:Bd w1 base e z A n c xs)
 (us:Array Value) (hu:us.size=z) (h1:∀u∈us.toList,u.oneCell'=true) (hx:a.eval x=.slice (some ⟨w1,0,none⟩) 1 1)
 (IS:n+1≤maxLen) (jg:(n+1)*bytes≤140737488355328) (he:An w0 w1) (hb:w0.heap.size≤base) (l8:base≤w1.heap.size)
 (h:∀A' c' w',Bd w' base e z A' (n+1) c' (xs++us.toList)→w1.grownBy w' (Ak A n c).ownBlock→((Ak A' (n+1) c').ownBlock=(Ak A n c).ownBlock∨∃g,w1.heap.size≤g∧(Ak A' (n+1) c').ownBlock=some g)→An w0 w'→
  K (a.put o.dst (.slice A' (n+1) c')) w'):if Bu o (yielded ops a.tmps)=true then Oper.wp P o a (w1.alloc (.cells us e)) K Q else E:=by
 have N1:=trivial;exact K45
theorem C8 {ars:Array Operand}{tys:Array TypeId}(dn:o.guard=none)
 (f:FuncId) (args:Array Value) (ho:o.op=.call { callee:=.value (.func f),args:=ars,argTypes:=tys }) (de:(execOp a.eval o).run P w=.ok (.enter f args) w) (R:Value→World→Prop)
 (hc:Calls P f args w fun e w'=>∃v,e=.returned v∧R v w') (h:∀v w',R v w'→K (a.put o.dst v) w'):if Bu o (yielded ops a.tmps)=true then Oper.wp P o a w K Q else E:=by
 have hw:Bu o (yielded ops a.tmps)=true:=by simp[Bu,dn]
 rw[if_pos hw];exact I17
theorem dJ {n c m d:Nat}(hl:Bj w A n c l)(eq:Bj w B m d l'):
 Calls prog 12 #[.slice A n c,.slice B m d] w fun e w'=>e=.returned (.bool (Uv l l'))∧∃k,w'=w.drewN k:=by
 have h1:=hl.ncap;have h2:=hl.nmax;have h3:=eq.ncap;have h4:=eq.nmax;have e1:=A6 hl.len;have e2:=A6 eq.len;unfold maxLen at h2 h4;by_cases ky:n=m
 ·subst ky
  have ai:((n:Int) !=(n:Int))=false:=by simp
  go_enter func12,ntmps12
  go_wp2_with fail
  go_loopw [13] (fun i wr=>∃k:Nat,k≤n∧i=.int .i64 k∧Hid (l.take k=l'.take k)∧∃q,wr=w.drewN q) (fun i _=>n-(intOf i).toNat)
  case atStart=>exact⟨0,by omega,rfl,rfl,0,rfl⟩
  case round=>
   obtain⟨k,hk,rfl,ht,q,rfl⟩:=hrel;by_cases ae:k<n
   ·obtain⟨a1,rfl,bh⟩:=hl.at_ ae
    obtain⟨a2,rfl,fo⟩:=eq.at_ ae;have c1:=bh k ae;have c2:=fo k ae;clear bh fo;by_cases heq:gI l k=gI l' k
    ·have b1:(gI l k !=gI l' k)=false:=by simpa using heq
     have HN:=A6 heq;clear heq;go_wp2_with fail
     go_quiet (fail)
     go_wp2_with fail
     go_roundw
     case rel=>exact⟨k+1,by omega,by go_num,bF e1.out e2.out ae ht.out HN.out,q+nq,rfl⟩
     case measure=>simp[intOf];omega
    ·have b1:(gI l k !=gI l' k)=true:=by simpa using heq
     have HN:=A6 heq;clear heq;go_wp2_with fail
     go_quiet (fail)
     go_wp2_with fail
     go_ret
     exact⟨Gt (Zr.2 (fun e=>HN.out (by rw[e]))).symm,_,Qv _ _ _⟩
   ·obtain rfl:k=n:=by omega
    go_wp2_with fail
    go_ret
    exact⟨Gt (Q5.2 (eG e1.out e2.out ht.out)).symm,_,rfl⟩
 ·have ai:((n:Int) !=(m:Int))=true:=by simp;omega
  have hf:Uv l l'=false:=Zr.2 (fun e=>ky (by rw[←e1.out,←e2.out,e]))
  go_enter func12,ntmps12
  go_wp2_with fail
  go_ret
  exact⟨Gt hf.symm,0,rfl⟩
theorem Lk {n c m d:Nat}(hl:Bj w A n c l)(eq:Bj w B m d l'):
 Calls prog 12 #[.slice A n c,.slice B m d] w fun e w'=>e=.returned (.bool (Uv l l'))∧An w w':=
 (dJ hl eq).mono fun e w' ⟨h1,k,h2⟩=>⟨h1,by rw[h2];exact An.drewN _ _⟩
def V6 (l:List Int)(m k:Nat):Prop:=k<m∧∀j,j<k→gI l j=gI l (m-k+j)
instance (l:List Int)(m k:Nat):Decidable (V6 l m k):=by unfold V6;exact inferInstance
theorem dS {m:Nat}(h:0<m):V6 l m 0:=⟨h,fun _ h=>absurd h (by omega)⟩
def Vo (l:List Int)(m:Nat):Nat→Nat
 |0=>0
 |k+1=>if V6 l m (k+1)then k+1 else Vo l m k
def bl (l:List Int)(m:Nat):Nat:=Vo l m (m-1)
theorem qJ {m:Nat}(hm:0<m)(k:Nat):V6 l m (Vo l m k):=by
 induction k with
 |zero=>exact dS hm
 |succ k ih=>unfold Vo;split<;>assumption
theorem qI {m:Nat}(k:Nat){j:Nat}(hj:V6 l m j)(hk:j≤k):j≤Vo l m k:=by
 induction k with
 |zero=>simp[Vo];omega
 |succ k ih=>
  unfold Vo;split
  ·exact hk
  ·rename_i hn
   rcases Ay k j with h|h
   ·obtain rfl:j=k+1:=by omega
    exact absurd hj hn
   ·exact ih h
theorem Tm {l:List Int}{m:Nat}(hm:0<m):V6 l m (bl l m):=qJ hm _
theorem Vt {m j:Nat}(hj:V6 l m j):j≤bl l m:=qI _ hj (by have:=hj.1;omega)
theorem Yq {l:List Int}{m:Nat}(hm:0<m):bl l m<m:=(Tm hm).1
theorem J2d {m k:Nat}(hk:V6 l m k)(tt:∀j,V6 l m j→j≤k):bl l m=k:=
 Nat.le_antisymm (tt _ (Tm (by have:=hk.1;omega))) (Vt hk)
theorem qC (h:V6 l i k)(h':V6 l k j):V6 l i j:=by
 refine⟨by have:=h.1;have:=h'.1;omega,fun t ht=>?_⟩
 have h1:=h'.1;exact I129
theorem kB (h:V6 l i k)(h':V6 l i j)(ae:j<k):V6 l k j:=by
 refine⟨ae,fun t ht=>?_⟩
 exact I129
theorem X2 (h:V6 l (i+1) (k+1)):V6 l i k∧gI l k=gI l i:=by
 refine⟨⟨by have:=h.1;omega,fun t ht=>?_⟩,?_⟩
 ·rw[h.2 t (by omega)];congr 1;omega
 ·have:=h.1
  rw[h.2 k (by omega)];congr 1;omega
theorem xA (h:V6 l i k)(he:gI l k=gI l i):V6 l (i+1) (k+1):=by
 refine⟨by have:=h.1;omega,fun t ht=>?_⟩
 have:=h.1;rcases Ay t k with h1|h1
 ·rw[h.2 t h1];congr 1;omega
 ·obtain rfl:t=k:=by omega
  rw[he];congr 1;omega
def mA (l:List Int)(i k:Nat):Prop:=V6 l i k∧∀j,V6 l (i+1) (j+1)→j≤k
theorem jV (hi:0<i):mA l i (bl l i):=⟨Tm hi,fun _ h=>Vt (X2 h).1⟩
theorem pY (h:mA l i k)(hk:0<k)(ai:gI l k≠gI l i):mA l i (bl l k):=by
 refine⟨qC h.1 (Tm hk),fun j hj=>?_⟩
 have h1:=h.2 j hj;obtain⟨h2,h3⟩:=X2 hj;have:j≠k:=fun e=>ai (by rw[←e];exact h3)
 exact Vt (kB h.1 h2 (by omega))
theorem T4 (h:mA l i k)(he:gI l k=gI l i):bl l (i+1)=k+1:=
 J2d (xA h.1 he) fun j hj=>by
  rcases j with _|j
  ·omega
  ·have:=h.2 j hj;omega
theorem aA (h:mA l i 0)(ai:gI l 0≠gI l i):bl l (i+1)=0:=
 J2d (dS (by omega)) fun j hj=>by
  rcases j with _|j
  ·omega
  ·have:=h.2 j hj
   obtain rfl:j=0:=by omega
   exact absurd (X2 hj).2 ai
def Rz (l:List Int):List Int:=(List.range l.length).map fun i=>(bl l (i+1):Int)
def Md (l:List Int)(i:Nat):List Int:=(List.range l.length).map fun j=>if j<i then(bl l (j+1):Int)else 0
theorem wX (l:List Int)(i:Nat):(Md l i).length=l.length:=by simp[Md]
theorem sG (l:List Int):bl l 1=0:=by have:=@Yq l 1 (by omega);omega
theorem jZ (l:List Int):Md l 1=List.replicate l.length 0:=by
 apply List.ext_getElem
 ·simp[Md]
 ·intro j h1 h2
  simp[Md];intro h;obtain rfl:j=0:=by omega
  simp[sG]
theorem wZ (l:List Int)(h:l.length≤i):Md l i=Rz l:=by
 apply List.ext_getElem
 ·simp[Md,Rz]
 ·intro j h1 h2
  simp[Md,Rz]at h1 ⊢;omega
theorem wW (l:List Int):(Md l i).set i (bl l (i+1))=Md l (i+1):=by
 apply List.ext_getElem
 ·simp[Md]
 ·intro j h1 h2
  rw[List.getElem_set];simp[Md];split
  ·rename_i e;subst e;simp
  ·rename_i ai;by_cases hj:j<i
   ·rw[if_pos hj,if_pos (by omega)]
   ·rw[if_neg hj,if_neg (by omega)]
theorem wY (l:List Int)(h:k<i)(hi:i≤l.length)(hk:0<k):gI (Md l i) (k-1)=(bl l k:Int):=by
 have:k-1<l.length:=by omega
 simp[gI,Md,this];rw[if_pos (by omega),show k-1+1=k by omega]
theorem aC (l:List Int)(hi:k≤l.length)(hk:0<k):gI (Rz l) (k-1)=(bl l k:Int):=by
 have:k-1<l.length:=by omega
 simp[gI,Rz,this];rw[show k-1+1=k by omega]
theorem aB (l:List Int){i j:Nat}(h:j<l.length):((Md l i).map (Av .i64)).toArray[j]? = some (.int .i64 (gI (Md l i) j)):=by
 have:j<(Md l i).length:=by rw[wX];exact h
 simp[gI,this]
theorem Rp {g j:Nat}{t:TypeId}{u:Int}(h:Aq w g t ((Md l j).map (Av .i64)).toArray)(hu:u=(bl l (j+1):Int)):
 Aq (w.setCell ⟨g,j,none⟩ u) g t ((Md l (j+1)).map (Av .i64)).toArray:=by
 have:=h.set_ j (.int .i64 u);rw[←wW,←hu,List.map_set,←List.setIfInBounds_toArray];exact this
theorem qE (l:List Int):(Rz l).length=l.length:=by simp[Rz]
theorem Yh:(prog.info? 3).map (fun i=>(i.zero,i.size,i.bytes))=some (some (.int .i64 0),1,8):=by kernel_rfl
theorem kA (hl:Bj w A n c l)(hn:n≤4096):
 Calls prog 184 #[.slice A n c] w fun e w'=>∃g,e=.returned (.tuple #[.slice (some ⟨g,0,none⟩) n n,(0:Int)])∧Aq w' g 3 ((Rz l).map (Av .i64)).toArray∧w.heap.size≤g∧An w w':=by
 obtain⟨i0,hi,bm,bz,az⟩:=info_parts Yh;have ab:=hl.len;have f6:∀u:World,(Instr.makeSlice 25 (.int .i64 (n:Int)) (.int .i64 (n:Int))).run prog u=
  .ok (.slice (some ⟨u,0,none⟩) n n) (u.alloc (.cells (madeCells #[(0:Int)] n) 3)):=fun u=>by
  have h:=run_make (P:=prog) u 25 3 i0 (.int .i64 0) underlying25 hi bm .i64 .i64 (n:Int) (n:Int) (by omega) (Int.le_refl _) (by rw[az];omega) (by omega)
  simpa[bz,Value.cells]using h
 have Hl:=A6 ab;clear ab;go_enter func184,ntmps184
 go_wp2_with fail
 go_loopw [5,6] (fun k i wr=>∃(kn j:Nat),1≤j∧(j≤n∨n=0)∧k=.int .i64 kn∧i=.int .i64 j∧Hid (kn=bl l j)∧
  Aq wr w.heap.size 3 ((Md l j).map (Av .i64)).toArray∧An w wr) (fun _ i _=>n-(intOf i).toNat)
 case atStart=>
  refine⟨0,1,by omega,by omega,rfl,rfl,(sG l).symm,?_,An.alloc _ _⟩
  rw[jZ,Hl.out,←U3];exact Aq.new _ _ _
 case round=>
  obtain⟨kn,j,um,BM,rfl,rfl,hk,hb,he⟩:=hrel;by_cases ae:j<n
  ·obtain⟨ad,rfl,kh⟩:=hl.at_ ae
   have hnle:=ae;go_wp2_with fail
   go_loopw [5] (fun k w2=>∃kn:Nat,k=.int .i64 kn∧Hid (mA l j kn)∧kn<j∧Aq w2 w.heap.size 3 ((Md l j).map (Av .i64)).toArray∧An w w2) (fun k _=>(intOf k).toNat)
   case atStart=>exact⟨kn,rfl,by rw[hk.out];exact jV um,by rw[hk.out];exact Yq um,hb,he⟩
   case round=>
    clear hk hb he;obtain⟨kn,rfl,hk,JE,hb,he⟩:=hrel;have c1:=he.cell (kh kn (by omega))
    have c2:=he.cell (kh j (by omega))
    have c3:=(hb.cell j).trans (aB l (by rw[Hl.out];exact ae))
    have f3:=hb.frozen j;by_cases il:0<kn
    ·by_cases ai:gI l kn=gI l j
     ·have e1:(gI l kn==gI l j)=true:=by simpa using ai
      have e2:(gI l kn !=gI l j)=false:=by simpa using ai
      have HN:=A6 ai;clear ai;go_wp2_with fail
      go_quiet (fail)
      go_wp2_with fail
      go_quiet (fail)
      go_wp2_with fail
      go_roundw
      case rel=>exact⟨kn+1,j+1,by omega,by omega,by go_num,by go_num,(T4 hk.out HN.out).symm,Rp (hb.drewN _) (by rw[T4 hk.out HN.out];omega),((he.to_drewN _).setCell (Aj _) _)⟩
      case measure=>simp[intOf];omega
     ·have e1:(gI l kn==gI l j)=false:=by simpa using ai
      have e2:(gI l kn !=gI l j)=true:=by simpa using ai
      have HN:=A6 ai;clear ai;have c4:=(hb.cell (kn-1)).trans (aB l (by rw[Hl.out];omega))
      have e4:gI (Md l j) (kn-1)=(bl l kn:Int):=wY l JE (by rw[Hl.out];omega) il
      rw[e4]at c4;clear e4;go_wp2_with fail
      go_quiet (fail)
      go_wp2_with fail
      go_roundw
      case rel=>exact⟨bl l kn,rfl,pY hk.out il HN.out,by have:=@Yq l kn il;omega,hb,he.to_drewN _⟩
      case measure=>have:=@Yq l kn il;simp[intOf];omega
    ·obtain rfl:kn=0:=by omega
     have jx:0<n:=by omega
     rw[Ei]at c1;by_cases ai:gI l 0=gI l j
     ·have e1:(gI l 0==gI l j)=true:=by simpa using ai
      have HN:=A6 ai;clear ai;go_wp2_with fail
      go_quiet (fail)
      go_wp2_with fail
      go_quiet (fail)
      go_wp2_with fail
      go_roundw
      case rel=>exact⟨1,j+1,by omega,by omega,by go_num,by go_num,(T4 hk.out HN.out).symm,Rp (hb.drewN _) (by rw[T4 hk.out HN.out];omega),((he.to_drewN _).setCell (Aj _) _)⟩
      case measure=>simp[intOf];omega
     ·have e1:(gI l 0==gI l j)=false:=by simpa using ai
      have HN:=A6 ai;clear ai;go_wp2_with fail
      go_quiet (fail)
      go_wp2_with fail
      go_quiet (fail)
      go_wp2_with fail
      go_roundw
      case rel=>exact⟨0,j+1,by omega,by omega,by go_num,by go_num,(aA hk.out HN.out).symm,Rp (hb.drewN _) (by rw[aA hk.out HN.out];omega),((he.to_drewN _).setCell (Aj _) _)⟩
      case measure=>simp[intOf];omega
  ·go_wp2_with fail
   go_ret2
   exact⟨_,rfl,by rw[←wZ l (show l.length≤j by rw[Hl.out];omega)];exact hb,Aj _,he⟩
theorem bQ (hl:Bj w A n c l)(hn:n≤4096):
 Calls prog 184 #[.slice A n c] w fun e w'=>∃B,e=.returned (.tuple #[.slice B n n,(0:Int)])∧Bj w' B n n (Rz l)∧An w w':=
 (kA hl hn).mono fun e w' ⟨g,h1,h2,h3,h4⟩=>⟨_,h1,h2.ints (by rw[qE,hl.len]) (by unfold maxLen;omega),h4⟩
def fF (p s:List Int)(i k:Nat):Prop:=k≤i∧k≤p.length∧∀j,j<k→gI p j=gI s (i-k+j)
def occ (p s:List Int)(x:Nat):Prop:=∀j,j<p.length→gI p j=gI s (x+j)
instance (p s:List Int)(x:Nat):Decidable (occ p s x):=by unfold occ;exact inferInstance
theorem cI (p s:List Int)(i:Nat):fF p s i 0:=⟨B8 _,B8 _,fun _ h=>absurd h (by omega)⟩
theorem Sn (h:fF p s (i+1) (k+1)):fF p s i k∧gI p k=gI s i:=by
 obtain⟨h1,h2,h3⟩:=h;refine⟨⟨by omega,by omega,fun j hj=>?_⟩,?_⟩
 ·rw[h3 j (by omega)];congr 1;omega
 ·rw[h3 k (by omega)];congr 1;omega
theorem We (h:fF p s i k)(hk:k<p.length)(he:gI p k=gI s i):fF p s (i+1) (k+1):=by
 obtain⟨h1,h2,h3⟩:=h;refine⟨by omega,by omega,fun j hj=>?_⟩
 rcases Ay j k with h4|h4
 ·rw[h3 j h4];congr 1;omega
 ·obtain rfl:j=k:=by omega
  rw[he];congr 1;omega
theorem kQ (h:fF p s i k)(h':V6 p k j):fF p s i j:=by
 obtain⟨h1,h2,h3⟩:=h;have h4:=h'.1;refine⟨by omega,by omega,fun t ht=>?_⟩
 rw[h'.2 t ht,h3 (k-j+t) (by omega)]
 congr 1
 omega
theorem Y1 (h:fF p s i k)(h':fF p s i j)(ae:j<k):V6 p k j:=by
 obtain⟨h1,h2,h3⟩:=h;obtain⟨g1,g2,g3⟩:=h';refine⟨ae,fun t ht=>?_⟩
 rw[g3 t ht,h3 (k-j+t) (by omega)]
 congr 1
 omega
def aK (p s:List Int)(i k:Nat):Prop:=fF p s i k∧k<p.length∧∀j,fF p s i j→j<p.length→j≤k
def Vl (p s:List Int)(i k:Nat):Prop:=fF p s i k∧k<p.length∧∀j,fF p s (i+1) (j+1)→j≤k
theorem iS {p:List Int}(s:List Int)(h:0<p.length):aK p s 0 0:=⟨cI _ _ _,h,fun j hj _=>hj.1⟩
theorem jU (h:aK p s i k):Vl p s i k:=
 ⟨h.1,h.2.1,fun j hj=>h.2.2 j (Sn hj).1 (by have:=hj.2.1;omega)⟩
theorem pX (h:Vl p s i k)(hk:0<k)(ai:gI p k≠gI s i):Vl p s i (bl p k):=by
 have hb:=@Tm p k hk;refine⟨kQ h.1 hb,by have:=hb.1;have:=h.2.1;omega,fun j hj=>?_⟩
 have h1:=h.2.2 j hj;obtain⟨h2,h3⟩:=Sn hj;have:j≠k:=fun e=>ai (by rw[←e];exact h3)
 exact Vt (Y1 h.1 h2 (by omega))
theorem J0e (h:Vl p s i k)(he:gI p k=gI s i)(hm:k+1<p.length):aK p s (i+1) (k+1):=
 ⟨We h.1 h.2.1 he,hm,fun j hj _=>by
  rcases j with _|j
  ·omega
  ·have:=h.2.2 j hj;omega⟩
theorem vS (h:Vl p s i k)(he:gI p k=gI s i)(hm:k+1=p.length):aK p s (i+1) (bl p p.length):=by
 have h0:0<p.length:=by omega
 have hs:=We h.1 h.2.1 he;rw[hm]at hs;have hb:=@Tm p p.length h0;exact⟨kQ hs hb,hb.1,fun j hj ae=>Vt (Y1 hs hj ae)⟩
theorem uN (h:Vl p s i 0)(ai:gI p 0≠gI s i):aK p s (i+1) 0:=
 ⟨cI _ _ _,h.2.1,fun j hj _=>by
  rcases j with _|j
  ·omega
  ·have h1:=h.2.2 j hj
   obtain rfl:j=0:=by omega
   exact absurd (Sn hj).2 ai⟩
def Mw (p s:List Int)(i:Nat):List Int:=((List.range (i+1-p.length)).filter fun x=>decide (occ p s x)).map fun x:Nat=>(x:Int)
def aM (p s:List Int):List Int:=Mw p s s.length
theorem iF {p:List Int}(s:List Int)(h:0<p.length):Mw p s 0=[]:=by
 unfold Mw;rw[show 0+1-p.length=0 by omega]
 rfl
theorem tU (h:Vl p s i k)(he:gI p k=gI s i)(hm:k+1=p.length):Mw p s (i+1)=Mw p s i++[((i:Int)+1-p.length)]:=by
 have hs:=We h.1 h.2.1 he;rw[hm]at hs;obtain⟨h1,h2,h3⟩:=hs;have ho:occ p s (i+1-p.length):=fun j hj=>h3 j hj
 unfold Mw;rw[show i+1+1-p.length=(i+1-p.length)+1 by omega,List.range_succ,List.filter_append,List.map_append]
 congr 1
 simp[ho];omega
theorem kX (h0:0<p.length)(du:¬fF p s (i+1) p.length):Mw p s (i+1)=Mw p s i:=by
 unfold Mw;rcases Ay (i+1) p.length with h1|h1
 ·rw[show i+1+1-p.length=0 by omega,show i+1-p.length=0 by omega]
 ·rw[show i+1+1-p.length=(i+1-p.length)+1 by omega,List.range_succ,List.filter_append,List.map_append]
  have ho:¬occ p s (i+1-p.length):=fun ho=>du ⟨h1,Aj _,fun j hj=>ho j hj⟩
  simp[ho]
theorem oA (h:Vl p s i k)(hm:k+1<p.length):¬fF p s (i+1) p.length:=fun hs=>by
 have h1:p.length=(p.length-1)+1:=by omega
 rw[h1]at hs;have:=h.2.2 _ hs;omega
theorem iJ (h:Vl p s i 0)(ai:gI p 0≠gI s i):¬fF p s (i+1) p.length:=fun hs=>by
 have h0:=h.2.1;have h1:p.length=(p.length-1)+1:=by omega
 rw[h1]at hs;have h2:=h.2.2 _ hs;have h3:p.length-1=0:=by omega
 rw[h3]at hs;exact ai (Sn hs).2
theorem xK {n m c d:Nat}(hp:Bj w A n c p)(hs:Bj w B m d s)(hn:n≤4096)(h0:0<n)(hm:m≤4096):
 Calls prog 178 #[.slice A n c,.slice B m d] w fun e w'=>∃C n' c',e=.returned (.tuple #[.slice C n' c',(0:Int)])∧Ba w' w.heap.size C n' c' (aM p s)∧An w w':=by
 obtain⟨i0,hi,bm,bz,az⟩:=info_parts Cd;have eb:=A6 hp.len;have ul:=A6 hs.len;have jx:((n:Int)==0)=false:=by simp;omega
 obtain⟨pa,rfl,RT⟩:=hp.at_ h0;go_enter func178,ntmps178
 go_wp2_with fail
 refine(bQ hp (by omega)).mono ?_
 rintro e w1 ⟨B1,rfl,al,aj⟩;obtain⟨ba,rfl,HU⟩:=al.at_ h0;go_wp2_with fail
 go_loopw [8,10,41] (fun v k i wr=>∃(kn j q:Nat) (C:Option Addr) (c':Nat),kn<n∧j≤m∧q≤j+1∧k=.int .i64 kn∧i=.int .i64 j∧v=.slice C q c'∧Hid (aK p s j kn)∧Ba wr w1.heap.size C q c' (Mw p s j)∧An w1 wr) (fun _ _ i _=>m-(intOf i).toNat)
 case atStart=>exact⟨0,0,0,none,0,h0,by omega,by omega,rfl,rfl,rfl,iS s (by rw[eb.out];exact h0),by rw[iF s (by rw[eb.out];exact h0)];exact Ba.nil _ _,An.refl _⟩
 case round=>
  obtain⟨kn,j,q,C,c',jc,hj,hq,rfl,rfl,rfl,sd,ac,au⟩:=hrel;by_cases ae:j<m
  ·obtain⟨sa,rfl,gj⟩:=hs.at_ ae
   have sj:=au.cell (aj.cell (gj j ae));go_wp2_with fail
   go_loopw [10] (fun k w2=>∃kn:Nat,kn<n∧k=.int .i64 kn∧Hid (Vl p s j kn)∧w2=wr) (fun k _=>(intOf k).toNat)
   case atStart=>exact⟨kn,jc,rfl,jU sd.out,rfl⟩
   case round=>
    clear sd jc;obtain⟨kn,jc,rfl,jm,rfl⟩:=hrel;have pk:=au.cell (aj.cell (RT kn jc));by_cases ai:gI p kn=gI s j
    ·have e1:(gI p kn==gI s j)=true:=by simpa using ai
     have e2:(gI p kn !=gI s j)=false:=by simpa using ai
     have HN:=A6 ai;clear ai;by_cases dd:kn+1=n
     ·have hf:((kn:Int)+1==n)=true:=by simp;omega
      have bk:w1.cell? (ba.add kn)=some (.int .i64 (bl p n)):=by
       rw[←aC p (by rw[eb.out];exact Aj _) h0,show n-1=kn by omega];exact HU kn (by omega)
      have MX:=@Yq p n h0;have kr:Hid (Mw p s (j+1)=Mw p s j++[((j:Int)+1-(n:Int))]):=by
       have:=tU jm.out HN.out (by rw[eb.out];exact dd)
       rw[eb.out]at this;exact this
      have sd:Hid (aK p s (j+1) (bl p n)):=by
       have:=vS jm.out HN.out (by rw[eb.out];exact dd)
       rw[eb.out]at this;exact this
      have HF:=A6 dd;have XQ:kn+1≤n:=by omega
      clear dd;rcases Br kn with il|il
      ·have N0:=trivial;exact K41
      ·have N1:=trivial;exact K41
     ·have hf:((kn:Int)+1==n)=false:=by simp;omega
      have kr:Hid (Mw p s (j+1)=Mw p s j):=kX (by rw[eb.out];exact h0) (oA jm.out (by rw[eb.out];omega))
      have sd:Hid (aK p s (j+1) (kn+1)):=J0e jm.out HN.out (by rw[eb.out];omega)
      rcases Br kn with il|il
      ·subst il
       rw[Ei]at pk;clear jm HN;go_wp2_with fail
       go_roundw
       case rel=>exact⟨1,j+1,q,C,c',by omega,by omega,by omega,by go_num,by go_num,rfl,sd,by rw[kr.out];exact ac,au⟩
       case measure=>simp[intOf];omega
      ·clear jm HN
       go_wp2_with fail
       go_roundw
       case rel=>exact⟨kn+1,j+1,q,C,c',by omega,by omega,by omega,by go_num,by go_num,rfl,sd,by rw[kr.out];exact ac,au⟩
       case measure=>simp[intOf];omega
    ·have e1:(gI p kn==gI s j)=false:=by simpa using ai
     have e2:(gI p kn !=gI s j)=true:=by simpa using ai
     rcases Br kn with il|il
     ·subst il
      rw[Ei]at pk;have hf:((0:Int)==n)=false:=by simp;omega
      have kr:Hid (Mw p s (j+1)=Mw p s j):=kX (by rw[eb.out];exact h0) (iJ jm.out ai)
      have sd:Hid (aK p s (j+1) 0):=uN jm.out ai;clear ai jm;go_wp2_with fail
      go_roundw
      case rel=>exact⟨0,j+1,q,C,c',h0,by omega,by omega,by go_num,by go_num,rfl,sd,by rw[kr.out];exact ac,au⟩
      case measure=>simp[intOf];omega
     ·have bk:wr.cell? (ba.add (kn-1))=some (.int .i64 (bl p kn)):=by
       rw[←aC p (by rw[eb.out];omega) il];exact au.cell (HU _ (by omega))
      have MX:=@Yq p kn il;have OB:Hid (Vl p s j (bl p kn)):=pX jm.out il ai;clear ai jm;go_wp2_with fail
      go_roundw
      case rel=>exact⟨bl p kn,by omega,rfl,OB,trivial⟩
      case measure=>simp[intOf];omega
  ·obtain rfl:j=m:=by omega
   go_wp2_with fail
   go_ret2
   exact⟨C,q,c',rfl,by unfold aM;rw[ul.out];exact Bd.lower ac aj.hsize,aj.trans au⟩
structure Pt where
 first:Int
 reg:Int
 op:Int
 second:Int
 wait:Int
structure Cm where
 count:Int
 reg:Int
 op:Int
 verb:Int
 arg:Int
def Pt.zero:Pt:=⟨0,0,0,0,0⟩
def Cm.zero:Cm:=⟨0,0,0,0,0⟩
def Qq (c:Int):Bool:=if 97≤c∧c≤122 then true else decide (65≤c∧c≤90)
def Fu (c:Int):Bool:=c==100||c==99||c==121
def Le (p:Pt):Bool:=decide (p.first<0)||decide (999<p.first)||decide (p.second<0)||decide (999<p.second)||(decide (0<p.second)&&p.op==0)
def Pr (p:Pt):Bool:=(p.reg !=0 && !Qq p.reg)||(p.op !=0 && !Fu p.op)
def Dc (p:Pt):Bool:=
 if p.wait==0||p.wait==102||p.wait==70||p.wait==116||p.wait==84 then true
 else if p.wait==114||p.wait==34 then p.op==0&&(p.wait==114||p.reg==0)
 else if p.wait==105||p.wait==97 then p.op !=0
 else false
def Ew (p:Pt):Bool:=!Le p && !Pr p&&Dc p
def Jn (k:Int):Bool:=k==104||k==108||k==48||k==94||k==36||k==124||k==119||k==87||k==98||k==66||k==101||k==69||k==37||k==59||k==44
def Ex (k:Int):Bool:=k==102||k==70||k==116||k==84
def Ff (k:Int):Bool:=k==73||k==65||k==115||k==83||k==67||k==68||k==120||k==88||k==112||k==80||k==89||k==126||k==117||k==85||k==46||k==106||k==107||k==71||k==47||k==63||k==110||k==78||k==82
def Rt (p:Pt):Int:=if p.op==0 then p.first else p.second
def Fc (p:Pt)(k:Int):Bool:=(decide (49≤k)&&decide (k≤57))||(k==48&&decide (0<Rt p))
def At (p:Pt)(k:Int):Int:=
 if Fc p k then 1 else if Fu k then 3 else if Jn k then 5 else if Ex k then 4
 else if k==105||k==97 then(if p.op !=0 then 8 else 6)
 else if p.op !=0 then 0
 else if k==34 then(if p.reg !=0 then 0 else 2)
 else if k==114 then 7
 else if Ff k then 6 else 0
def Du (n k:Int):Int:=min 999 (10*n+k-48)
def Qp (p:Pt):Int:=if p.first==0 then p.second else if p.second==0 then p.first else min 999 (p.first*p.second)
def Mp (p:Pt)(v a:Int):Cm:=⟨Qp p,p.reg,p.op,v,a⟩
def qZ (k:Int):Bool:=k==119||k==87||k==40||k==41||k==91||k==93||k==123||k==125||k==34||k==39||k==96
structure Tk where
 p:Pt
 c:Cm
 how:Int
def Ep:Tk:=⟨Pt.zero,Cm.zero,3⟩
def Fr (p:Pt)(k:Int):Tk:=
 if p.wait==34 then(if Qq k then⟨{ p with reg:=k,wait:=0 },Cm.zero,1⟩else Ep)
 else if p.wait==105||p.wait==97 then(if qZ k then⟨Pt.zero,Mp p p.wait k,2⟩else Ep)
 else⟨Pt.zero,Mp p p.wait k,2⟩
def Bp (p:Pt)(k:Int):Tk:=
 if k<32∨k=127 then Ep
 else if p.wait≠0 then Fr p k
 else if At p k=1 then(if p.op≠0 then⟨{ p with second:=Du p.second k },Cm.zero,1⟩else⟨{ p with first:=Du p.first k },Cm.zero,1⟩)
 else if At p k=2∨At p k=4∨At p k=7∨At p k=8 then⟨{ p with wait:=k },Cm.zero,1⟩
 else if At p k=3 then(if p.op=0 then⟨{ p with op:=k },Cm.zero,1⟩else if p.op≠k then Ep else⟨Pt.zero,Mp p k 0,2⟩)
 else if At p k=5∨At p k=6 then⟨Pt.zero,Mp p k 0,2⟩
 else Ep
theorem iU {f r o s k:Int}(h:At ⟨f,r,o,s,0⟩ k=2∨At ⟨f,r,o,s,0⟩ k=4∨At ⟨f,r,o,s,0⟩ k=7∨At ⟨f,r,o,s,0⟩ k=8):Dc ⟨f,r,o,s,k⟩=true:=by
 unfold At at h;by_cases a1:Fc ⟨f,r,o,s,0⟩ k=true
 ·simp[a1]at h
 by_cases a2:Fu k=true
 ·simp[a1,a2]at h
 by_cases a3:Jn k=true
 ·simp[a1,a2,a3]at h
 by_cases a4:Ex k=true
 ·unfold Dc
  simp[Ex]at a4;rw[if_pos (by simp;omega)]
 by_cases a5:k=105∨k=97
 ·have SO:(k==105||k==97)=true:=by simpa using a5
  by_cases ho:o=0
  ·subst ho;simp[a1,a2,a3,a4,SO]at h
  ·unfold Dc
   rw[if_neg (by simp;omega),if_neg (by simp;omega),if_pos (by simpa using a5)]
   simpa using ho
 ·have SO:(k==105||k==97)=false:=by simpa using a5
  by_cases ho:o=0
  ·subst ho
   by_cases a6:k=34
   ·subst a6
    by_cases hr:r=0
    ·subst hr;rfl
    ·simp[a1,a2,a3,a4,hr]at h
   ·by_cases a7:k=114
    ·subst a7;rfl
    ·have a6':(k==34)=false:=by simpa using a6
     have a7':(k==114)=false:=by simpa using a7
     simp only[a1,a2,a3,a4,SO,a6',a7',if_false,Bool.false_eq_true]at h;exfalso
     revert h
     by_cases a8:Ff k=true<;>simp[a8]
  ·simp[a1,a2,a3,a4,SO,ho]at h
theorem Mg:Ew Pt.zero=true:=by decide
theorem Kk {p:Pt}{k:Int}(h:Ew p=true):Ew (Bp p k).p=true∧((Bp p k).how=1∨(Bp p k).how=2∨(Bp p k).how=3)∧((Bp p k).how≠1→(Bp p k).p=Pt.zero)∧
 ((Bp p k).how=1→(Bp p k).p=p→p.first=999∨p.second=999):=by
 obtain⟨f,r,o,s,wt⟩:=p;unfold Bp;split
 ·exact I44
 rename_i hk;split
 ·rename_i hw
  unfold Fr;split
  ·rename_i dx
   split
   ·rename_i hl
    simp only at dx hl hw;have NZ:wt=34:=by simpa using dx
    subst NZ;refine⟨?_,by simp,by simp,?_⟩
    ·simp only[Ew,Le,Pr,Dc]at h ⊢
     simp at h ⊢;obtain⟨⟨h1,h2,h3⟩,h4⟩:=h;exact⟨h1,.inr hl,h3⟩
    ·intro _ e
     injection e with _ _ _ _ e;omega
   ·exact I44
  ·split
   ·split
    ·exact I83
    ·exact I44
   ·exact I83
 rename_i hw;simp only[ne_eq,Decidable.not_not]at hw;subst hw;split
 ·rename_i hd
  have Oa:Fc ⟨f,r,o,s,0⟩ k=true:=by
   unfold At at hd;split at hd
   ·assumption
   ·exfalso;revert hd;(repeat' split)<;>decide
  have hb:0≤f∧f≤999∧0≤s∧s≤999:=by
   simp[Ew,Le]at h;omega
  split
  ·rename_i ho
   simp only[ne_eq]at ho;have ff:Rt ⟨f,r,o,s,0⟩=s:=by unfold Rt;simp[ho]
   simp[Fc,ff]at Oa;have hc:0≤Du s k∧Du s k≤999∧(Du s k=s→s=999):=by unfold Du;omega
   refine⟨?_,by simp,by simp,?_⟩
   ·simp[Ew,Le,Pr,Dc]at h ⊢
    simp[ho]at h ⊢;refine⟨?_,h.2⟩
    omega
   ·intro _ e
    injection e with _ _ _ e _;exact .inr (hc.2.2 e)
  ·rename_i ho
   simp only[ne_eq,Decidable.not_not]at ho;subst ho;have ff:Rt ⟨f,r,0,s,0⟩=f:=by unfold Rt;simp
   simp[Fc,ff]at Oa;have hc:0≤Du f k∧Du f k≤999∧(Du f k=f→f=999):=by unfold Du;omega
   refine⟨?_,by simp,by simp,?_⟩
   ·simp[Ew,Le,Pr,Dc]at h ⊢
    refine⟨?_,h.2⟩
    omega
   ·intro _ e
    injection e with e _ _ _ _;exact .inl (hc.2.2 e)
 rename_i hd;split
 ·rename_i hq
  have il:k≠0:=by omega
  have hwk:=iU (f:=f) (s:=s) hq;refine⟨?_,by simp,by simp,?_⟩
  ·simp only[Ew,Le,Pr]at h ⊢
   rw[hwk];simp at h ⊢;exact h.1
  ·intro _ e
   injection e with _ _ _ _ e;exact absurd e il
 rename_i hq;split
 ·rename_i BF
  have ke:Fu k=true:=by
   unfold At at BF;split at BF
   ·exact absurd BF (by decide)
   ·split at BF
    ·assumption
    ·exfalso;revert BF;(repeat' split)<;>decide
  split
  ·rename_i ho
   simp only at ho;subst ho;have il:k≠0:=by omega
   refine⟨?_,by simp,by simp,?_⟩
   ·simp[Ew,Le,Pr,Dc]at h ⊢
    simp[ke,il];exact⟨h.1.1,h.2⟩
   ·intro _ e
    injection e with _ _ e _ _;exact absurd e il
  ·split
   ·exact I44
   ·exact I83
 split
 ·exact I83
 ·exact I44
def Ue (N:List Nat)(w w':World):Prop:=w.heap.size≤w'.heap.size∧∀k,k<w.heap.size→k∉N→w'.heap[k]? = w.heap[k]?
section
variable {N:List Nat} {w w' w'':World} {base e z n c:Nat} {A:Option Addr} {xs:List Value}
theorem An.eqv (h:An w w')(N:List Nat):Ue N w w':=⟨h.hsize,fun k hk _=>Below.block h k hk⟩
theorem Ue.refl (N:List Nat)(w:World):Ue N w w:=⟨Nat.le_refl _,fun _ _ _=>rfl⟩
theorem Ue.trans (h:Ue N w w')(k:Ue N w' w''):Ue N w w'':=⟨Nat.le_trans h.1 k.1,fun j hj hn=>(k.2 j (Nat.lt_of_lt_of_le hj h.1) hn).trans (h.2 j hj hn)⟩
theorem Ue.setCell (w:World)(p:Addr)(u:Value)(hp:p.block∈N):Ue N w (w.setCell p u):=by
 refine⟨by simp,fun k _ hn=>?_⟩
 unfold World.setCell;rw[Array.getElem?_modify,if_neg (fun e=>hn (by rw[←e];exact hp))]
theorem Ue.grown {row:Option Nat}(hg:w.grownBy w' row)(hr:∀k,row=some k→k∈N):Ue N w w':=
 ⟨hg.size,fun k hk hn=>hg.block k hk (fun e=>hn (hr k e.symm))⟩
theorem Bd.eqv (h:Bd w base e z A n c xs)(he:Ue N w w')(hb:∀k,(Ak A n c).ownBlock=some k→k∉N):Bd w' base e z A n c xs:=by
 obtain⟨h1,h2⟩:=h;refine⟨h1,?_⟩
 rcases h2 with h2|⟨g,cap,cur,hv,EZ,hg,r⟩
 ·exact .inl h2
 ·refine .inr ⟨g,cap,cur,hv,EZ,?_,r⟩
  injection hv with hA _ _;subst hA;rw[he.2 g (Array.getElem?_eq_some_iff.1 hg).1 (hb g rfl)];exact hg
theorem Aq.eqv {g t:Nat}{cs:Array Value}(h:Aq w g t cs)(he:Ue N w w')(hg:g∉N):Aq w' g t cs:=(he.2 g h.lt hg).trans h
theorem Bd.unlike {iq e' z' n' c':Nat}{A':Option Addr}{sf:List Value}(h:Bd w base e z A n c xs)(h':Bd w iq e' z' A' n' c' sf)(ai:e≠e')(k:Nat)(hk:(Ak A n c).ownBlock=some k):(Ak A' n' c').ownBlock≠some k:=by
 intro di;rcases h.2 with⟨hv,_⟩|⟨g,cap,cur,hv,_,hg,_⟩
 ·injection hv with hA _ _
  subst hA;cases hk
 rcases h'.2 with⟨nt,_⟩|⟨g',ib,UO,nt,_,cr,_⟩
 ·injection nt with hA _ _
  subst hA;cases di
 injection hv with hA _ _;subst hA;injection nt with hA _ _;subst hA;injection hk with hk;injection di with di;have:g=g':=by
  have h1:g=k:=hk;have h2:g'=k:=di;omega
 subst this;rw[hg]at cr;injection cr with cr;injection cr with _ h1;exact ai h1
end
inductive Tr where
 |nil:Tr
 |node (l:Tr) (c:Int) (r:Tr):Tr
namespace Tr
def sz:Tr→Nat
 |nil=>0
 |node l _ r=>l.sz+1+r.sz
def ht:Tr→Nat
 |nil=>0
 |node l _ r=>1+max l.ht r.ht
def toL:Tr→List Int
 |nil=>[]
 |node l c r=>l.toL++c::r.toL
def bal:Tr→Prop
 |nil=>True
 |node l _ r=>l.bal∧r.bal∧l.ht≤r.ht+1∧r.ht≤l.ht+1
theorem toL_node (l:Tr)(c:Int)(r:Tr):(node l c r).toL=l.toL++c::r.toL:=rfl
theorem len:∀t:Tr,t.toL.length=t.sz
 |nil=>rfl
 |node l c r=>by unfold toL sz;rw[List.length_append,List.length_cons,len l,len r];omega
theorem ht_le:∀t:Tr,t.ht≤t.sz
 |nil=>Nat.le_refl _
 |node l c r=>by have:=ht_le l;have:=ht_le r;unfold ht sz;omega
def level (l:Tr)(c:Int)(r:Tr):Tr:=
 if l.ht>r.ht+1 then
  match l with
  |nil=>nil
  |node ll lc lr=>if lr.ht≤ll.ht then node ll lc (node lr c r)else
   match lr with
   |nil=>nil
   |node ml mc mr=>node (node ll lc ml) mc (node mr c r)
 else if r.ht>l.ht+1 then
  match r with
  |nil=>nil
  |node rl rc rr=>if rl.ht≤rr.ht then node (node l c rl) rc rr else
   match rl with
   |nil=>nil
   |node ml mc mr=>node (node l c ml) mc (node mr rc rr)
 else node l c r
def last:Tr→Tr×Int
 |nil=>(nil,0)
 |node l c nil=>(l,c)
 |node l c (node a b d)=>(level l c (last (node a b d)).1,(last (node a b d)).2)
def buildF:Nat→List Int→Tr
 |0,_=>nil
 |f+1,l=>if l.length=0 then nil else node (buildF f (l.take (l.length/2))) (gI l (l.length/2)) (buildF f (l.drop (l.length/2+1)))
def build (l:List Int):Tr:=buildF l.length l
end Tr
def Df (c:Int):Prop:=0≤c∧c≤1114111∧(c<55296∨57343<c)
instance (c:Int):Decidable (Df c):=by unfold Df;exact inferInstance
def Gz (c:Nat):List Nat:=
 if c<128 then [c]
 else if c<2048 then [192+c/64,128+c%64]
 else if c<65536 then [224+c/4096,128+c/64%64,128+c%64]
 else [240+c/262144,128+c/4096%64,128+c/64%64,128+c%64]
def Em (l:List Nat):ByteArray:=⟨(l.map UInt8.ofNat).toArray⟩
theorem pI (h:Df c):Utf8.encode c=Em (Gz c):=by
 obtain⟨h0,h1,h2⟩:=h;have hv:Utf8.valid (c:Int)=true:=by
  unfold Utf8.valid;rcases h2 with h2|h2
  ·simp;omega
  ·simp;omega
 unfold Utf8.encode Gz Em;simp only[hv,if_true,Int.toNat_natCast];split
 ·rfl
 ·split
  ·rfl
  ·split<;>rfl
theorem J0u (h:c≤1114111):∀x∈Gz c,x<256:=by
 intro x hx;unfold Gz at hx;split at hx
 ·simp at hx;omega
 ·split at hx
  ·simp at hx;omega
  ·split at hx
   ·simp at hx;omega
   ·simp at hx;omega
def Ap (s:ByteArray):List Nat:=s.data.toList.map UInt8.toNat
def gN (l:List Nat)(k:Nat):Nat:=l[k]?.getD 0
theorem F5 (s:ByteArray):(Ap s).length=s.size:=by unfold Ap;rw[List.length_map];rfl
theorem Vb (s:ByteArray):∀x∈Ap s,x<256:=by
 intro x hx;unfold Ap at hx;obtain⟨u,_,rfl⟩:=List.mem_map.1 hx;exact u.toNat_lt
theorem Jg {l:List Nat}(h:∀x∈l,x<256):Ap (Em l)=l:=by
 unfold Em Ap;simp only[List.toList_toArray,List.map_map]
 conv=>rhs;rw[←List.map_id l]
 apply List.map_congr_left
 intro x hx;simp only[Function.comp,UInt8.toNat_ofNat',id];exact Nat.mod_eq_of_lt (h x hx)
theorem Vc (s:ByteArray)(k:Nat)(h:k<s.size):(s[k]'h).toNat=gN (Ap s) k:=by
 unfold gN Ap;rw[List.getElem?_map,List.getElem?_eq_getElem (show k<s.data.toList.length by simpa using h)]
 simp
 rfl
theorem kE {l:List Nat}(h:∀x∈l,x<256)(k:Nat):gN l k<256:=by
 unfold gN;cases hk:l[k]? with
 |none=>simp
 |some u=>exact h u (List.mem_of_getElem? hk)
theorem Wr (s t:ByteArray):Ap (s++t)=Ap s++Ap t:=by
 unfold Ap;simp[ByteArray.data_append]
def Er (b:Nat):Nat:=if b<128 then 1 else if b<192 then 0 else if b<224 then 2 else if b<240 then 3 else if b<248 then 4 else 0
def Kd (b:Nat):Nat:=if b<128 then b else if b<192 then 0 else if b<224 then b%32 else if b<240 then b%16 else if b<248 then b%8 else 0
def Mq (n:Nat):Nat:=if n=2 then 128 else if n=3 then 2048 else if n=4 then 65536 else 0
def Kq (l:List Nat):Nat→Nat→Nat→Nat×Nat
 |0,_,c=>(0,c)
 |f+1,i,c=>if i=l.length then(3,c)else if gN l i/64≠2 then(4,c)else Kq l f (i+1) (c*64+gN l i%64)
def Qr (l:List Nat):Nat×Nat:=Kq l (Er (gN l 0)-1) 1 (Kd (gN l 0))
def Yo (l:List Nat):Prop:=¬((Qr l).2<Mq (Er (gN l 0))∨¬Df (Qr l).2)
instance (l:List Nat):Decidable (Yo l):=by unfold Yo;exact inferInstance
def J8 (l:List Nat):Nat:=if l.length=0 then 3 else if Er (gN l 0)=0 then 4 else if(Qr l).1≠0 then(Qr l).1 else if Yo l then 0 else 4
def J9 (l:List Nat):Nat:=if J8 l=0 then(Qr l).2 else 0
def Lc (l:List Nat):Nat:=if J8 l=0 then Er (gN l 0)else 0
theorem bN (c:Nat):0<(Gz c).length:=by unfold Gz;split<;>(try split)<;>(try split)<;>simp
theorem eX (c:Nat):(Gz c).length≤4:=by unfold Gz;split<;>(try split)<;>(try split)<;>simp
theorem Fg (a:Nat)(l:List Nat):gN (a::l) 0=a:=rfl
theorem G8 (a:Nat)(l:List Nat)(k:Nat):gN (a::l) (k+1)=gN l k:=rfl
theorem rK (h:b<128):Er b=1∧Kd b=b:=by unfold Er Kd;rw[if_pos h,if_pos h];exact⟨rfl,rfl⟩
theorem J6g (h:128≤b)(h':b<192):Er b=0:=by unfold Er;rw[if_neg (by omega),if_pos h']
theorem rJ (h:192≤b)(h':b<224):Er b=2∧Kd b=b%32:=by
 unfold Er Kd;rw[if_neg (by omega),if_neg (by omega),if_pos h',if_neg (by omega),if_neg (by omega),if_pos h'];exact⟨rfl,rfl⟩
theorem rI (h:224≤b)(h':b<240):Er b=3∧Kd b=b%16:=by
 unfold Er Kd;rw[if_neg (by omega),if_neg (by omega),if_neg (by omega),if_pos h',if_neg (by omega),if_neg (by omega),if_neg (by omega),if_pos h'];exact⟨rfl,rfl⟩
theorem rH (h:240≤b)(h':b<248):Er b=4∧Kd b=b%8:=by
 unfold Er Kd;rw[if_neg (by omega),if_neg (by omega),if_neg (by omega),if_neg (by omega),if_pos h',if_neg (by omega),if_neg (by omega),if_neg (by omega),if_neg (by omega),if_pos h'];exact⟨rfl,rfl⟩
theorem J6f (h:248≤b):Er b=0:=by
 unfold Er;rw[if_neg (by omega),if_neg (by omega),if_neg (by omega),if_neg (by omega),if_neg (by omega)]
theorem Zh (h:Df c)(m:List Nat):Er (gN (Gz c++m) 0)=(Gz c).length:=by
 obtain⟨h0,h1,h2⟩:=h;unfold Gz;split
 ·rw[Pp,Fg,(rK (by omega)).1];rfl
 split
 ·rw[Pp,Fg,(rJ (by omega) (by omega)).1];rfl
 split
 ·rw[Pp,Fg,(rI (by omega) (by omega)).1];rfl
 ·rw[Pp,Fg,(rH (by omega) (by omega)).1];rfl
theorem Jc {l:List Nat}{f i c:Nat}(h1:i≠l.length)(h2:gN l i/64=2):Kq l (f+1) i c=Kq l f (i+1) (c*64+gN l i%64):=by
 rw[Kq,if_neg h1,if_neg (by omega)]
theorem dF (h:Df c)(m:List Nat):Qr (Gz c++m)=(0,c):=by
 unfold Qr;rw[Zh h];obtain⟨h0,h1,h2⟩:=h;unfold Gz;split
 ·rw[Pp,Fg,(rK (by omega)).2];rfl
 split
 ·rw[Pp,Fg,(rJ (by omega) (by omega)).2]
  show Kq ((192+c/64)::(128+c%64)::m) 1 1 _=_
  rw[Jc (by simp) (by rw[G8,Fg];omega),Kq,G8,Fg]
  congr 1;omega
 split
 ·rw[Pp,Fg,(rI (by omega) (by omega)).2]
  show Kq ((224+c/4096)::(128+c/64%64)::(128+c%64)::m) 2 1 _=_
  rw[Jc (by simp) (by rw[G8,Fg];omega),Jc (by simp) (by rw[G8,G8,Fg];omega),Kq,G8,G8,G8,Fg,Fg]
  congr 1;omega
 ·rw[Pp,Fg,(rH (by omega) (by omega)).2]
  show Kq ((240+c/262144)::(128+c/4096%64)::(128+c/64%64)::(128+c%64)::m) 3 1 _=_
  rw[Jc (by simp) (by rw[G8,Fg];omega),Jc (by simp) (by rw[G8,G8,Fg];omega),Jc (by simp) (by rw[G8,G8,G8,Fg];omega),Kq]
  simp only[G8,Fg]
  congr 1;omega
theorem vR (h:Df c)(m:List Nat):J8 (Gz c++m)=0:=by
 have hl:=Zh h m;have hr:=dF h m;have hp:=bN c;unfold J8;rw[if_neg (by rw[List.length_append];omega),if_neg (by omega),hr,if_neg (by simp),if_pos]
 unfold Yo;rw[hr,hl];refine fun hh=>hh.elim (fun h1=>?_) (fun h1=>h1 h)
 unfold Gz Mq at h1;obtain⟨h0,_,h2⟩:=h;split at h1
 ·simp at h1
 split at h1
 ·simp at h1;omega
 split at h1
 ·simp at h1;omega
 ·simp at h1;omega
theorem Wv (h:Df c)(m:List Nat):J9 (Gz c++m)=c:=by
 unfold J9;rw[if_pos (vR h m),dF h m]
theorem Cl {ars:Array Operand}{tys:Array TypeId}(dn:o.guard=none)
 (f:FuncId) (args:Array Value) (ho:o.op=.call { callee:=.value (.func f),args:=ars,argTypes:=tys }) (de:(execOp a.eval o).run P w=.ok (.enter f args) w) (R:Value→World→Prop)
 (hc:Calls P f args w fun e w'=>∃v,e=.returned v∧R v w'∧An w w') (h:∀v w',R v w'→An w w'→K (a.put o.dst v) w'):if Bu o (yielded ops a.tmps)=true then Oper.wp P o a w K Q else E:=by
 have hw:Bu o (yielded ops a.tmps)=true:=by simp[Bu,dn]
 rw[if_pos hw];unfold Oper.wp;rw[de,Oper.upon_enter];refine hc.mono fun e w' hh=>?_
 obtain⟨v,rfl,hR,hE⟩:=hh;exact h v w' hR hE
def Bk (c:Int)(big:Bool):Int:=
 if c=32∨c=9 then 0 else if big=true∨(97≤c∧c≤122)∨(65≤c∧c≤90)∨(48≤c∧c≤57)∨c=95∨128≤c then 1 else 2
theorem Nh (c:Int)(big:Bool):0≤Bk c big∧Bk c big≤2:=by unfold Bk;split<;>(try split)<;>omega
def Bb (l:List Int)(big:Bool)(k:Int):Int:=if 0≤k∧k<l.length then Bk (gI l k.toNat) big else -1
theorem Hd (h:k<l.length):Bb l big k=Bk (gI l k) big:=by
 unfold Bb;rw[if_pos (by omega)];rfl
theorem M7 {k:Int}(h:k<0∨(l.length:Int)≤k):Bb l big k = -1:=by
 unfold Bb;rw[if_neg (by omega)]
theorem Zj (l:List Int)(big:Bool)(k:Int) : -1≤Bb l big k∧Bb l big k≤2:=by
 unfold Bb;split
 ·have:=Nh (gI l k.toNat) big;omega
 ·omega
def Uh (l:List Int)(big:Bool)(kind:Int):Nat→Nat→Nat
 |0,k=>k
 |f+1,k=>if Bb l big k=kind then Uh l big kind f (k+1)else k
def Fi (l:List Int)(big:Bool)(kind:Int)(k:Nat):Nat:=Uh l big kind (l.length+1-k) k
def Hr (l:List Int)(big:Bool)(kind:Int):Nat→Nat
 |0=>0
 |m+1=>if Bb l big m=kind then Hr l big kind m else m+1
theorem Xk {l:List Int}{big:Bool}{kind:Int}(hk:0≤kind):∀(f k:Nat),l.length+1-k≤f→
 k≤Uh l big kind f k∧(∀i,k≤i→i<Uh l big kind f k→Bb l big i=kind)∧Bb l big (Uh l big kind f k)≠kind∧(Uh l big kind f k≤l.length∨Uh l big kind f k=k)
 |0,k,h=>by
  refine⟨Aj _,fun i h1 h2=>absurd h2 (by show ¬i<k;omega),?_,.inr rfl⟩
  show Bb l big k≠kind
  rw[M7 (by omega)];omega
 |f+1,k,h=>by
  unfold Uh;split
  ·rename_i h1
   have ae:k<l.length:=by
    rcases Ay k l.length with h2|h2
    ·exact h2
    ·rw[M7 (by omega)]at h1;omega
   obtain⟨a,b,c,d⟩:=Xk (l:=l) (big:=big) hk f (k+1) (by omega)
   refine⟨by omega,fun i h2 h3=>?_,c,?_⟩
   ·rcases Ay k i with h4|h4
    ·exact b i (by omega) h3
    ·obtain rfl:i=k:=by omega
     exact h1
   ·rcases d with d|d
    ·exact .inl d
    ·exact .inl (by omega)
  ·rename_i h1
   exact⟨Aj _,fun i h2 h3=>absurd h3 (by omega),h1,.inr rfl⟩
theorem Ge (hk:0≤kind)(k:Nat):
 k≤Fi l big kind k∧(∀i,k≤i→i<Fi l big kind k→Bb l big i=kind)∧Bb l big (Fi l big kind k)≠kind∧(Fi l big kind k≤l.length∨Fi l big kind k=k):=
 Xk hk _ _ (Aj _)
theorem Sc (hk:0≤kind){k j:Nat}(h1:k≤j)(h2:∀i,k≤i→i<j→Bb l big i=kind)(h3:Bb l big j≠kind):Fi l big kind k=j:=by
 obtain⟨a,b,c,_⟩:=Ge (l:=l) (big:=big) hk k;rcases Nat.lt_trichotomy (Fi l big kind k) j with h|h|h
 ·exact absurd (h2 _ a h) c
 ·exact h
 ·exact absurd (b j h1 h) h3
theorem Ki {l:List Int}{big:Bool}{kind:Int}:∀m:Nat,
 Hr l big kind m≤m∧(∀i:Nat,Hr l big kind m≤i→i<m→Bb l big i=kind)∧(Hr l big kind m=0∨Bb l big ((Hr l big kind m:Int)-1)≠kind)
 |0=>⟨Aj _,fun i h1 h2=>absurd h2 (by omega),.inl rfl⟩
 |m+1=>by
  unfold Hr;split
  ·rename_i h1
   obtain⟨a,b,c⟩:=Ki (l:=l) (big:=big) (kind:=kind) m;refine⟨by omega,fun i h2 h3=>?_,c⟩
   rcases Ay i m with h4|h4
   ·exact b i h2 h4
   ·obtain rfl:i=m:=by omega
    exact h1
  ·rename_i h1
   refine⟨Aj _,fun i h2 h3=>absurd h3 (by omega),.inr ?_⟩
   rw[show((m+1:Nat):Int)-1=m by omega]
   exact h1
theorem aT {m j:Nat}(h1:j≤m)(h2:∀i:Nat,j≤i→i<m→Bb l big i=kind)(h3:j=0∨Bb l big ((j:Int)-1)≠kind):Hr l big kind m=j:=by
 obtain⟨a,b,c⟩:=Ki (l:=l) (big:=big) (kind:=kind) m;rcases Nat.lt_trichotomy (Hr l big kind m) j with h|h|h
 ·rcases h3 with h3|h3
  ·omega
  ·have:=b (j-1) (by omega) (by omega)
   rw[show((j-1:Nat):Int)=(j:Int)-1 by omega]at this
   exact absurd this h3
 ·exact h
 ·rcases c with c|c
  ·omega
  ·have:=h2 (Hr l big kind m-1) (by omega) (by omega)
   rw[show((Hr l big kind m-1:Nat):Int)=(Hr l big kind m:Int)-1 by omega]at this
   exact absurd this c
def Gk (l:List Int)(k:Nat)(big:Bool):Nat:=Fi l big 0 (if 0<Bb l big k then Fi l big (Bb l big k) k else k)
def Gr (l:List Int)(k:Nat)(big:Bool):Nat:=
 if Hr l big 0 k=0 then 0 else Hr l big (Bb l big ((Hr l big 0 k:Int)-1)) (Hr l big 0 k)
def D0 (l:List Int)(k:Nat)(big:Bool):Nat:=
 if l.length≤Fi l big 0 (k+1)then l.length-1 else Fi l big (Bb l big (Fi l big 0 (k+1))) (Fi l big 0 (k+1))-1
theorem Ur {c:Int}(h:c=32∨c=9):Bk c big=0:=by unfold Bk;rw[if_pos h]
theorem Ro {c:Int}(h:¬(c=32∨c=9))(h2:big=true∨(97≤c∧c≤122)∨(65≤c∧c≤90)∨(48≤c∧c≤57)∨c=95∨128≤c):Bk c big=1:=by unfold Bk;rw[if_neg h,if_pos h2]
theorem iX {c:Int}(h:¬(c=32∨c=9))(h2:¬(big=true∨(97≤c∧c≤122)∨(65≤c∧c≤90)∨(48≤c∧c≤57)∨c=95∨128≤c)):Bk c big=2:=by unfold Bk;rw[if_neg h,if_neg h2]
theorem Vw (c:Int)(big:Bool)(w:World):Calls prog 151 #[.int .i64 c,.bool big] w fun e w'=>e=.returned (.int .i64 (Bk c big))∧w'=w:=by
 by_cases h1:c=32
 ·subst h1
  rw[Ur (.inl rfl)];exact I25
 by_cases h2:c=9
 ·subst h2
  rw[Ur (.inr rfl)];exact I25
 have b1:(c==32)=false:=by simpa using h1
 have b2:(c==9)=false:=by simpa using h2
 have HN:Hid (¬(c=32∨c=9)):=A6 (by omega)
 clear h1 h2;rcases big with _|_
 ·by_cases h3:c=95
  ·subst h3
   rw[Ro HN.out (by omega)]
   exact I25
  have b3:(c==95)=false:=by simpa using h3
  have HF:Hid (∀v,v=Bk c false→v=Bk c false):=A6 (fun _ h=>h)
  have H3:=A6 h3;clear h3;go_enter func151,ntmps151
  go_wp2_with fail
  all_goals
   go_ret
   have h3:=H3.out;refine⟨Ju ?_,rfl⟩
   first
    |exact(Ro HN.out (by omega)).symm
    |exact(iX HN.out (by simp;omega)).symm
 ·rw[Ro HN.out (.inl rfl)]
  exact I25
theorem eB (c:Int)(big:Bool)(w:World)(n:Nat):Calls prog 151 #[.int .i64 c,.bool big] (w.drewN n) fun e w''=>e=.returned (.int .i64 (Bk c big))∧∃m,w''=w.drewN m:=
 (Vw c big _).mono fun _ _ ⟨h1,h2⟩=>⟨h1,n,h2⟩
theorem J0 (hl:Bj w A n c l)(k:Int)(h1 : -4611686018427387904≤k)(h2:k≤4611686018427387904):
 Calls prog 162 #[.agg #[.slice A n c,big],.int .i64 k] w fun e w'=>e=.returned (.int .i64 (Bb l big k))∧An w w':=by
 have ab:=A6 hl.len;have aw:=hl.ncap;have aq:=hl.nmax;unfold maxLen at aq;by_cases lm:0≤k∧k<n
 ·obtain⟨kn,rfl⟩:=Int.eq_ofNat_of_zero_le lm.1
  obtain⟨ad,rfl,hc⟩:=hl.at_ (k:=kn) (by omega)
  have hk:Hid (Bb l big kn=Bk (gI l kn) big):=Hd (by rw[ab.out];omega)
  have jc:kn<n:=by omega
  have DQ:=(An.alloc w (.cells #[.slice (some ad) n c,big] 254)).cell (hc kn jc);clear hc lm;rw[hk.out];go_enter func162,ntmps162
  go_wp2_with fail
  go_quiet ((go_at_call 151;exact eB _ _ _ _))
  go_wp2_with fail
  go_ret
  exact⟨rfl,(An.alloc _ _).to_drewN _⟩
 ·have hk:Hid (Bb l big k = -1):=M7 (by rw[ab.out];omega)
  rw[hk.out];go_enter func162,ntmps162
  go_wp2_with fail
  all_goals
   go_ret
   exact⟨rfl,An.alloc _ _⟩
theorem Nw {k kind:Int}(h:Bb l big k=kind)(h0:0≤kind):0≤k∧k<l.length:=by
 unfold Bb at h;split at h
 ·assumption
 ·omega
theorem Q2 (hl:Bj w A n c l)(k:Nat)(kind:Int)(h0:0≤kind)(h1:k≤n+1)(hn:n≤4096):
 Calls prog 161 #[.agg #[.slice A n c,big],.int .i64 k,.int .i64 1,.int .i64 kind] w fun e w'=>e=.returned (.int .i64 (Fi l big kind k))∧An w w':=by
 have ab:=A6 hl.len;have a9:=Aq.new w 254 #[.slice A n c,.bool big];go_enter func161,ntmps161
 go_wp2_with fail
 go_loopw [1] (fun i wr=>∃j:Nat,k≤j∧j≤n+1∧i=.int .i64 j∧Hid (∀i:Nat,k≤i→i<j→Bb l big i=kind)∧Aq wr w.heap.size 254 #[.slice A n c,.bool big]∧An w wr) (fun i _=>n+1-(intOf i).toNat)
 case atStart=>exact⟨k,Aj _,h1,rfl,fun i h1 h2=>absurd h2 (by omega),a9,An.alloc _ _⟩
 case round=>
  clear a9;obtain⟨j,hj,BM,rfl,ax,hb,he⟩:=hrel;have c0:=hb.cell 0;have c1:=hb.cell 1;simp only[Ah,Af,Ag]at c0 c1;have HK:=A6 (J0 (big:=big) (hl.ext he) j (by omega) (by omega))
  go_wp2_with fail
  refine HK.out.mono ?_
  rintro e w1 ⟨rfl,aj⟩;clear HK c0 c1;by_cases heq:Bb l big j=kind
  ·have b1:(Bb l big j==kind)=true:=by simpa using heq
   have ae:=(Nw heq h0).2;rw[ab.out]at ae;have HQ:=A6 heq;clear heq;go_wp2_with fail
   go_roundw
   case rel=>exact⟨j+1,by omega,by omega,by go_num,fun i h1 h2=>by
    rcases Ay i j with h3|h3
    ·exact ax.out i h1 h3
    ·obtain rfl:i=j:=by omega
     exact HQ.out,hb.ext aj,he.trans aj⟩
   case measure=>simp[intOf];omega
  ·have b1:(Bb l big j==kind)=false:=by simpa using heq
   have HQ:=A6 heq;clear heq;go_wp2_with fail
   go_ret
   exact⟨Ju (by rw[Sc h0 hj ax.out HQ.out]),he.trans aj⟩
theorem cY (hl:Bj w A n c l)(m:Nat)(kind:Int)(h0:0≤kind)(h1:m≤n+1)(hn:n≤4096):
 Calls prog 161 #[.agg #[.slice A n c,big],.int .i64 ((m:Int)-1),.int .i64 (-1),.int .i64 kind] w fun e w'=>e=.returned (.int .i64 ((Hr l big kind m:Int)-1))∧An w w':=by
 have ab:=A6 hl.len;have a9:=Aq.new w 254 #[.slice A n c,.bool big];go_enter func161,ntmps161
 go_wp2_with fail
 go_loopw [1] (fun i wr=>∃j:Nat,j≤m∧i=.int .i64 ((j:Int)-1)∧Hid (∀i:Nat,j≤i→i<m→Bb l big i=kind)∧Aq wr w.heap.size 254 #[.slice A n c,.bool big]∧An w wr) (fun i _=>(intOf i+1).toNat)
 case atStart=>exact⟨m,Aj _,rfl,fun i h1 h2=>absurd h2 (by omega),a9,An.alloc _ _⟩
 case round=>
  clear a9;obtain⟨j,hj,rfl,ax,hb,he⟩:=hrel;have c0:=hb.cell 0;have c1:=hb.cell 1;simp only[Ah,Af,Ag]at c0 c1;have HK:=A6 (J0 (big:=big) (hl.ext he) ((j:Int)-1) (by omega) (by omega))
  go_wp2_with fail
  refine HK.out.mono ?_
  rintro e w1 ⟨rfl,aj⟩;clear HK c0 c1;by_cases heq:Bb l big ((j:Int)-1)=kind
  ·have b1:(Bb l big ((j:Int)-1)==kind)=true:=by simpa using heq
   have ae:=(Nw heq h0).1;have HQ:=A6 heq;clear heq;go_wp2_with fail
   go_roundw
   case rel=>exact⟨j-1,by omega,by
    congr 1;omega,fun i h1 h2=>by
    rcases Ay i j with h3|h3
    ·obtain rfl:i=j-1:=by omega
     rw[←HQ.out];congr 1;omega
    ·exact ax.out i h3 h2,hb.ext aj,he.trans aj⟩
   case measure=>simp[intOf];omega
  ·have b1:(Bb l big ((j:Int)-1)==kind)=false:=by simpa using heq
   have HQ:=A6 heq;clear heq;go_wp2_with fail
   go_ret
   exact⟨Ju (by rw[aT hj ax.out (.inr HQ.out)]),he.trans aj⟩
theorem mG {A:Option Addr}{n c:Nat}{k:Int}{w:World}(aw:n≤c)(aq:c≤maxLen):
 Calls prog 160 #[.slice A n c,.int .i64 k] w fun e w'=>e=.returned (.int .i64 (if n>4096 then 2 else if k<0∨k>n then 1 else 0))∧w'=w:=by
 unfold maxLen at aq;have HF:Hid (∀v:Int,(n>4096→v=2)→(n≤4096→(k<0∨k>n)→v=1)→(n≤4096→0≤k→k≤n→v=0)→v=(if n>4096 then 2 else if k<0∨k>n then 1 else 0)):=A6 (fun v h1 h2 h3=>by
  split
  ·exact h1 ‹_›
  ·split
   ·exact h2 (by omega) ‹_›
   ·exact h3 (by omega) (by omega) (by omega))
 go_enter func160,ntmps160
 go_wp2_with fail
 all_goals (go_ret;exact⟨rfl,rfl⟩)
theorem sM (hl:Bj w A n c l)(hn:n≤4096)(hk:k≤n):
 Calls prog 180 #[.slice A n c,.int .i64 k,.bool big] w fun e w'=>e=.returned (.tuple #[.int .i64 (Gk l k big),(0:Int)])∧An w w':=by
 have N0:=trivial;exact K34
theorem eT (hk:k≤l.length):
 k≤Gk l k big∧Gk l k big≤l.length∧(Gk l k big=k→k=l.length∨k<l.length∧Bb l big k≠0∧¬0<Bb l big k)∧
 ∃m,k≤m∧m≤Gk l k big∧(∀i,k≤i→i<m→Bb l big i=Bb l big k∧0<Bb l big k)∧(0<Bb l big k→Bb l big m≠Bb l big k)∧(∀i,m≤i→i<Gk l k big→Bb l big i=0)∧Bb l big (Gk l k big)≠0:=by
 unfold Gk;split
 ·rename_i hp
  obtain⟨a1,a2,a3,a4⟩:=Ge (l:=l) (big:=big) (kind:=Bb l big k) (by omega) k
  have ae:=(Nw (k:=k) rfl (show 0≤Bb l big k by omega)).2
  have dy:Fi l big (Bb l big k) k≤l.length:=by rcases a4 with a4|a4<;>omega
  obtain⟨b1,b2,b3,b4⟩:=Ge (l:=l) (big:=big) (kind:=0) (by omega) (Fi l big (Bb l big k) k)
  have ai:Fi l big (Bb l big k) k≠k:=fun e=>a3 (by rw[e])
  refine⟨by omega,by rcases b4 with b4|b4<;>omega,fun e=>by omega,_,a1,b1,fun i h1 h2=>⟨a2 i h1 h2,hp⟩,fun _=>a3,b2,b3⟩
 ·rename_i hp
  obtain⟨b1,b2,b3,b4⟩:=Ge (l:=l) (big:=big) (kind:=0) (by omega) k
  refine⟨b1,by rcases b4 with b4|b4<;>omega,fun e=>?_,k,Nat.le_refl _,b1,fun i h1 h2=>absurd h2 (by omega),fun h=>absurd h hp,b2,b3⟩
  rcases Nat.lt_or_ge k l.length with h|h
  ·rw[e]at b3
   exact .inr ⟨h,b3,hp⟩
  ·exact .inl (by omega)
theorem dC (c:Int)(big:Bool):0≤Bk c big:=(Nh c big).1
theorem Xo (h:k<l.length)(h0:Bb l big k≠0):0<Bb l big k:=by
 rw[Hd h]at h0 ⊢;have:=dC (gI l k) big;omega
end
