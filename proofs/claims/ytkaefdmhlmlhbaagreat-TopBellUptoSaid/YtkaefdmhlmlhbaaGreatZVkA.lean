/-
  Part of the proof: ZVkA.
-/
import Derived.Test.YtkaefdmhlmlhbaaGreatZVjL
set_option maxRecDepth 100000
set_option maxHeartbeats 16000000
set_option linter.unusedVariables false
set_option linter.unusedSimpArgs false
namespace Go.Proofs.YtkaefdmhlmlhbaaGreat
open Go.RowKit
open _root_.List renaming append_assoc→Z4l,length_append→Bg
open _root_.Nat renaming le_refl→Aj
def NoA (s s':PS):Prop:=∃T,s'.told=s.told++T∧(∀x∈T,x.1≠2)∧s'.hi.most=s.hi.most∧s'.hi.lines=s.hi.lines
theorem NoA.same {s s':PS}(h:(s'.told,s'.hi.most,s'.hi.lines)=(s.told,s.hi.most,s.hi.lines)):NoA s s':=by
 injection h with h1 h;injection h with h2 h3;exact⟨[],by rw[h1,List.append_nil],(fun x hx=>by cases hx),h2,h3⟩
theorem NoA.refl (s:PS):NoA s s:=NoA.same rfl
theorem NoA.trans {a b c:PS}(h:NoA a b)(k:NoA b c):NoA a c:=by
 obtain⟨T,h1,h2,h3,h4⟩:=h;obtain⟨U,k1,k2,k3,k4⟩:=k;exact⟨T++U,by rw[k1,h1,Z4l],(fun x hx=>(List.mem_append.1 hx).elim (h2 x) (k2 x)),k3.trans h3,k4.trans h4⟩
theorem NoA.one {s s':PS}{x:Int×List Int}(h:s'.told=s.told++[x])(hx:x.1≠2)(h2:(s'.hi.most,s'.hi.lines)=(s.hi.most,s.hi.lines)):NoA s s':=by
 injection h2 with h2 h3;exact⟨[x],h,fun y hy=>by rw[List.mem_singleton.1 hy];exact hx,h2,h3⟩
theorem Z3z (s:PS):NoA s (Ey s):=NoA.one (x:=(1,[])) rfl (by decide) rfl
theorem Z4g (s:PS)(k:Int):NoA s (Dm s k):=by
 unfold Dm;split
 ·exact NoA.same rfl
 ·cases Ht s.mode s.tx s.at_.toNat k with
  |none=>exact Z3z s
  |some r=>exact NoA.same rfl
theorem Z5v:∀{ks:List Int} (s:PS),NoA s (keysF s ks):=by
 intro ks
 induction ks with
 |nil=>exact fun s=>NoA.refl s
 |cons k ks ih=>exact fun s=>(Z4g s k).trans (ih (Dm s k))
theorem Z4o (s:PS)(c:Cm)(d:Dn):NoA s (Mg s c d):=by
 unfold Mg Pe G4;split<;>(split<;>exact NoA.same rfl)
theorem Z5g (s:PS)(c:Cm):NoA s (doS s c):=by
 unfold doS;cases Mh s.tx s.rl s.at_ s.fk s.fa c with
 |none=>exact Z3z s
 |some d=>exact Z4o s c d
theorem Z4r (s:PS)(pat:List Int)(a b:Bool):NoA s (Fn s pat a b):=by
 unfold Fn;split
 ·exact NoA.same rfl
 ·exact Z3z s
theorem Z4v (s:PS)(c:Cm):NoA s (F3 s c):=by
 unfold F3;split
 ·exact Z5g s c
 split
 ·unfold Ga;split
  ·exact Z3z s
  ·exact NoA.same rfl
 split
 ·unfold J1;cases Tj s.tx s.first
  ·exact NoA.same rfl
  ·exact Z3z s
 split
 ·unfold Ez
  cases s.last with
  |none=>exact Z3z s
  |some x=>
   obtain⟨c',ks⟩:=x;simp only;cases Mh s.tx s.rl s.at_ s.fk s.fa (Cd c' c.count)with
   |none=>exact Z3z s
   |some d=>
    simp only;split
    ·exact Z4o s _ d
    ·exact((Z4o s _ d).trans (Z5v _)).trans (Z4g _ 27)
 split
 ·unfold upS;split
  ·exact NoA.same rfl
  ·exact Z3z s
 split
 ·unfold Mm;split
  ·exact NoA.same rfl
  ·exact Z3z s
 split
 ·unfold Mj;split
  ·exact NoA.same rfl
  ·exact Z3z s
 split
 ·exact Z4r s _ _ _
 split
 ·exact NoA.same rfl
 ·exact Z5g s c
def Z4b (T:List (Int×List Int)):List (List Int):=(T.filter fun x=>decide (x.1=2∧0<x.2.length)).map (·.2)
theorem Z4k (T U:List (Int×List Int)):Z4b (T++U)=Z4b T++Z4b U:=by unfold Z4b;rw[List.filter_append,List.map_append]
theorem Z5n {T:List (Int×List Int)}(h:∀x∈T,x.1≠2):Z4b T=[]:=by
 unfold Z4b;rw[List.filter_eq_nil_iff.2 fun x hx=>by simp[h x hx]]
 rfl
theorem Z4h {α:Type}{m:Nat}{l:List α}(h:l.length≤m):J4p m l=l:=by unfold J4p;rw[Nat.min_eq_left h,Nat.sub_self];rfl
theorem Z4m {α:Type}{m:Nat}(a b:List α):J4p m (J4p m a++b)=J4p m (a++b):=by
 unfold J4p;rw[Bg,List.length_drop,Bg];by_cases h:a.length≤m
 ·rw[Nat.min_eq_left h,Nat.sub_self,List.drop_zero,Nat.sub_zero]
 ·rw[Nat.min_eq_right (show m≤a.length by omega),show a.length-(a.length-m)=m by omega]
  have e:a++b=a.take (a.length-m)++(a.drop (a.length-m)++b):=by rw[←Z4l,List.take_append_drop]
  have hl:(a.take (a.length-m)).length=a.length-m:=by rw[List.length_take];omega
  have hz:a.length+b.length-min (a.length+b.length) m=(a.length-m)+(m+b.length-min (m+b.length) m):=by omega
  conv=>rhs;rw[e,hz,←List.drop_drop,List.drop_left' hl]
def HsR (s s':PS):Prop:=∃T,s'.told=s.told++T∧s'.hi.most=s.hi.most∧s'.hi.lines=J4p s.hi.most.toNat (s.hi.lines++Z4b T)
theorem NoA.hsR {s s':PS}(h:NoA s s')(hl:s.hi.lines.length≤s.hi.most.toNat):HsR s s':=by
 obtain⟨T,h1,h2,h3,h4⟩:=h;exact⟨T,h1,h3,by rw[Z5n h2,List.append_nil,Z4h hl,h4]⟩
theorem HsR.trans {a b c:PS}(h:HsR a b)(k:HsR b c):HsR a c:=by
 obtain⟨T,h1,h2,h3⟩:=h;obtain⟨U,k1,k2,k3⟩:=k;refine⟨T++U,by rw[k1,h1,Z4l],k2.trans h2,?_⟩
 rw[k3,h2,h3,Z4m,Z4k,Z4l]
theorem Z5d {K L T:Nat}{s:PS}(h:E8 K L T s):HsR s (Ma s):=by
 have e:Mz s.hi s.tx=Q0b s.hi s.tx:=by unfold Mz;rw[if_pos ⟨h.hist.nobad,h.hist.nolong,h.line.len⟩]
 refine⟨[(2,s.tx)],rfl,?_,?_⟩
 ·show(Mz s.hi s.tx).most=_
  rw[e];rfl
 ·show(Mz s.hi s.tx).lines=_
  rw[e]
  show Lp s.hi s.tx=_
  have h1:=h.hist.len;have h2:=h.hist.lo;unfold Lp;by_cases h0:s.tx.length=0
  ·rw[if_pos h0]
   have:Z4b [(2,s.tx)]=[]:=by unfold Z4b;simp[h0]
   rw[this,List.append_nil,Z4h (by omega)]
  ·rw[if_neg h0]
   have:Z4b [(2,s.tx)]=[s.tx]:=by
    unfold Z4b;rw[List.filter_cons_of_pos (by simp;omega)]
    rfl
   rw[this]
theorem Z6e {K L T:Nat}{s:PS}(h:E8 K L T s)(k:Int):HsR s (Em s k):=by
 have hl:s.hi.lines.length≤s.hi.most.toNat:=by have:=h.hist.len;have:=h.hist.lo;omega
 unfold Em;split
 ·exact(show NoA s (Rn s)from NoA.one (x:=(3,[])) rfl (by decide) rfl).hsR hl
 split
 ·refine NoA.hsR ?_ hl
  unfold Le;split
  ·exact(NoA.same rfl).trans (Z4r { s with mode:=0 } _ _ _)
  split
  ·exact NoA.same rfl
  split
  ·split<;>exact NoA.same rfl
  split
  ·exact Z3z s
  ·exact NoA.same rfl
 split
 ·exact Z5d h
 split
 ·split
  ·exact(show NoA s { s with told:=s.told++[(4,[])],over:=true }from NoA.one (x:=(4,[])) rfl (by decide) rfl).hsR hl
  ·exact(Z3z s).hsR hl
 split
 ·exact(Z4g s k).hsR hl
 ·refine NoA.hsR ?_ hl
  unfold Sj;split
  ·exact(NoA.same rfl).trans (Z4v { s with part:=(Co s.part k).p } _)
  split
  ·exact(NoA.same rfl).trans (Z3z { s with part:=(Co s.part k).p })
  ·exact NoA.same rfl
theorem Z5s {K L T:Nat}{s:PS}(h:E8 K L T s)(k:Int):HsR s (Fz s k):=by
 have hl:s.hi.lines.length≤s.hi.most.toNat:=by have:=h.hist.len;have:=h.hist.lo;omega
 unfold Fz;split
 ·exact(NoA.refl s).hsR hl
 ·obtain⟨T,h1,h2,h3⟩:=Z6e h k
  exact⟨T,h1,h2,h3⟩
theorem Z5h {W:Nat}:∀(ks:List Int) {N T V:Nat} {s:PS},E8 N N T s→Xn W s→s.vis.length≤V→(∀k∈ks,Q4 k)→HsR s (Cc s ks):=by
 intro ks
 induction ks with
 |nil=>
  intro N T V s h1 _ _ _;have hl:s.hi.lines.length≤s.hi.most.toNat:=by have:=h1.hist.len;have:=h1.hist.lo;omega
  exact(NoA.refl s).hsR hl
 |cons k ks ih=>
  intro N T V s h1 h2 h3 h4;obtain⟨a1,a2,a3,_⟩:=Ze (k:=k) h1 h2 h3 (h4 k List.mem_cons_self);exact(Z5s h1 k).trans (ih a1 a2 a3 (fun x hx=>h4 x (List.mem_cons_of_mem _ hx)))
theorem Z6f {W N:Nat}{s:PS}{b:ByteArray}(h:Qd W N s):(Cw s b).hi.most=s.hi.most∧(Cw s b).hi.lines=J4p s.hi.most.toNat (s.hi.lines++Z4b (Cw s b).told):=by
 obtain⟨T,hT⟩:=h.inv;obtain⟨r1,r2,r3⟩:=Tc (Ao b) s.pend h.pend;have hch:∀k∈(Da s.pend (Ao b)).out,Q4 k:=fun k hk=>⟨(r2 k hk).1,(r2 k hk).2.1⟩
 unfold Cw;generalize Da s.pend (Ao b)=mc at*;have i0:E8 N N 0 (En s mc.ah):=⟨hT.tx,⟨hT.line.len,hT.line.lo,hT.line.hi⟩,hT.rl,hT.past,hT.pasts,hT.first,hT.hist,hT.ask,hT.last,hT.now,hT.mode,hT.idle,hT.part,Aj _⟩;have w0:Xn W (En s mc.ah):=h.win.same rfl rfl rfl rfl;obtain⟨U,h1,h2,h3⟩:=Z5h (V:=0) mc.out i0 w0 (Aj _) hch;rw[show(En s mc.ah).told=[]from rfl,List.nil_append]at h1
 rw[h1];exact⟨h2,h3⟩
theorem Z5i {most:Int}{W:Nat}(h1:1≤most)(h2:most≤50)(h3:2≤W)(h4:W≤120){ts:List ByteArray}(hsz:∀j,j<ts.length→(gB ts j).size≤4096)(hN:szI ts ts.length≤1900000):
 ∀i,i≤ts.length→Qd W (szI ts i) (Fb (Jt most W) ts i)∧(Fb (Jt most W) ts i).hi.most=most∧(Fb (Jt most W) ts i).hi.lines=J4p most.toNat (Z4b (evI (Jt most W) ts i))∧(evI (Jt most W) ts i).length≤szI ts i*1905000:=by
 intro i
 induction i with
 |zero=>exact fun _=>⟨Q6l h1 h2 h3 h4,rfl,by show([]:List (List Int))=_;simp[evI,Z4b,J4p],Nat.zero_le _⟩
 |succ i ih=>
  intro hi;obtain⟨a1,a2,a3,a4⟩:=ih (by omega)
  have hb:=hsz i (by omega)
  have hn:=Q9q ts (show i≤ts.length by omega)
  obtain⟨q1,q2,_,_⟩:=a1.feed (b:=gB ts i) (by omega) hb
  obtain⟨k1,k2⟩:=Z6f (b:=gB ts i) a1;rw[J7h _ ts (show i<ts.length by omega)]
  refine⟨q1,k1.trans a2,?_,?_⟩
  rotate_left 1
  ·show(evI (Jt most W) ts i++(Fb (Jt most W) ts (i+1)).told).length≤(szI ts i+((gB ts i).size+1))*1905000
   rw[J7h _ ts (show i<ts.length by omega),Bg,Nat.add_mul]
   omega
  rw[k2,a2,a3,Z4m]
  show _=J4p most.toNat (Z4b (evI (Jt most W) ts i++(Fb (Jt most W) ts (i+1)).told))
  rw[Z4k,J7h _ ts (show i<ts.length by omega)]
