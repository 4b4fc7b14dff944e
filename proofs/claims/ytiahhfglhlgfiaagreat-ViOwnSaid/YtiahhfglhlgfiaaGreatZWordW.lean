/-
  Part ZWordW.
-/
import Derived.Test.YtiahhfglhlgfiaaGreatZBase
import Derived.IntWalk
set_option maxRecDepth 100000
set_option maxHeartbeats 16000000
set_option linter.unusedVariables false
set_option linter.unusedSimpArgs false
namespace Go.Proofs.YtiahhfglhlgfiaaGreat
open Go.RowKit
open _root_.Nat renaming eq_zero_or_pos→Bk,le_refl→Ai,le_trans→Ap,lt_or_ge→At,zero_le→Aw
open World renaming setCell→Bb
open _root_.List renaming getElem?_cons_succ→Af,getElem?_cons_zero→Ae,getElem?_eq_getElem→By,getElem?_toArray→Ag,length_append→Bl,length_drop→Ct,length_take→Cj,mem_singleton→Et,replicate→Ar
open Value renaming int→Aq,slice→Aj
section
variable {l b:List Int}{A:Option Addr}{w:World}{n c k x y i:Nat}{big:Bool}{st:Int→List Nat}{r:List Int×Nat}{j:Nat×List Int}{p:Nat→Int}
def sY (l:List Int)(i:Nat)(big:Bool):Prop:=i<l.length∧Au l big i≠0∧(i=0∨Au l big ((i:Int)-1)≠Au l big i)
theorem pA (hk:k≤l.length):Fj l k big=0∨(0<Fj l k big∧Fj l k big<k∧sY l (Fj l k big) big):=by
 unfold Fj;obtain⟨b1,b2,b3⟩:=J2 (l:=l) (big:=big) (kind:=0) k;generalize Ga l big 0 k=j at*;split
 ·exact .inl rfl
 ·rename_i hj
  rcases b3 with b3|b3
  ·omega
  rw[show((j:Int)-1)=((j-1:Nat):Int)by omega]at b3 ⊢
  obtain⟨c1,c2,c3⟩:=J2 (l:=l) (big:=big) (kind:=Au l big (j-1:Nat)) j;generalize Ga l big (Au l big (j-1:Nat)) j=r at*;rcases Bk r with h0|h0
  ·exact .inl h0
  ·rcases c3 with c3|c3
   ·omega
   have hr:r<j:=by
    rcases At r j with h|h
    ·exact h
    ·exfalso
     apply c3
     congr 1
     omega
   have e:=c2 r (Nat.le_refl _) hr;exact .inr ⟨h0,by omega,by omega,by rw[e];exact b3,.inr (by rw[e];exact c3)⟩
theorem sI (hk:k≤l.length):
 (l.length=0∧Cl l k big=0)∨(0<l.length∧Cl l k big=l.length-1)∨(k<Cl l k big∧Cl l k big+1<l.length∧Au l big (Cl l k big)≠Au l big (Cl l k big+1:Nat)):=by
 unfold Cl;obtain⟨b1,b2,b3,b4⟩:=F7 (l:=l) (big:=big) (kind:=0) (by omega) (k+1)
 generalize Eg l big 0 (k+1)=j at*;split
 ·rcases Bk l.length with h|h
  ·exact .inl ⟨h,by omega⟩
  ·exact .inr (.inl ⟨h,rfl⟩)
 ·rename_i hj
  have hp:=Uf (l:=l) (big:=big) (k:=j) (by omega) b3
  obtain⟨c1,c2,c3,c4⟩:=F7 (l:=l) (big:=big) (kind:=Au l big j) (by omega) j
  generalize Eg l big (Au l big j) j=r at*;have hr:j<r:=by
   rcases At j r with h|h
   ·exact h
   ·exact absurd (by congr 1;omega) c3
  have e:=c2 (r-1) (by omega) (by omega)
  rcases At r l.length with h|h
  ·refine .inr (.inr ⟨by omega,by omega,?_⟩)
   rw[e,show r-1+1=r by omega]
   exact fun h=>c3 h.symm
  ·exact .inr (.inl ⟨by omega,by omega⟩)
theorem Lg (hk:k≤l.length):Fj l k big≤k:=by
 rcases pA (big:=big) hk with h|⟨_,h,_⟩<;>omega
theorem Yr (hl:Bi w A n c l)(hn:n≤4096)(hk:k≤n):
 Calls Tryz.prog 86 #[.slice A n c,.int .i64 k,.bool big] w fun e w'=>e=.returned (.tuple #[.int .i64 (Fj l k big),.int .i64 0])∧Al w w':=by
 have N1:=trivial;exact yI
theorem qB (hl:Bi w A n c l)(hn:n≤4096)(hk:k≤n):
 Calls Tryz.prog 160 #[.slice A n c,.int .i64 k,.bool big] w fun e w'=>e=.returned (.tuple #[.int .i64 (Cl l k big),.int .i64 0])∧Al w w':=by
 have N2:=trivial;exact yI
theorem aA (w:World)(a:Addr)(u:Value):w.grownBy (w.setCell a u) (some a.block):=
 ⟨rfl,rfl,rfl,by simp[Bb],fun k hk hne=>by
  have:a.block≠k:=fun e=>hne (by rw[e])
  unfold Bb;rw[Array.getElem?_modify,if_neg this]⟩
theorem V1 {a b c:World}{row:Option Nat}(h:a.grownBy b row)(k:b.grownBy c row):a.grownBy c row:=
 ⟨k.os.trans h.os,k.tape.trans h.tape,k.output.trans h.output,Nat.le_trans h.size k.size,fun i hi hne=>(k.block i (Nat.lt_of_lt_of_le hi h.size) hne).trans (h.block i hi hne)⟩
structure Fh where
 f:Int
 t:Int
 x:List Int
def kI (n:Int):Int→Int→List Fh→Int
 |_,size,[]=>if 4096<size then 2 else 0
 |last,size,s::e=>
  if s.f≤last∨s.t<s.f∨n<s.t∨(s.f=s.t∧s.x.length=0)then 4
  else if 4096<s.x.length∨8192<size-(s.t-s.f)+s.x.length then 2
  else kI n s.t (size-(s.t-s.f)+s.x.length) e
def fJ (n:Int)(e:List Fh):Int:=if n<0∨4096<n then 1 else kI n (-1) n e
def good (n:Int):Int→List Fh→Prop
 |_,[]=>True
 |last,s::e=>last<s.f∧s.f≤s.t∧s.t≤n∧¬(s.f=s.t∧s.x.length=0)∧s.x.length≤4096∧good n s.t e
def Ye (size:Int):List Fh→Prop
 |[]=>size≤4096
 |s::e=>size-(s.t-s.f)+s.x.length≤8192∧Ye (size-(s.t-s.f)+s.x.length) e
theorem Wm {n:Int}:∀{e:List Fh} {last size:Int},kI n last size e=0↔good n last e∧Ye size e
 |[],last,size=>by
  simp only[kI,good,Ye,true_and];split<;>omega
 |s::e,last,size=>by
  simp only[kI,good,Ye];split
  ·simp only[Int.reduceEq,false_iff]
   omega
  ·split
   ·simp only[Int.reduceEq,false_iff]
    omega
   ·rw[Wm]
    constructor
    ·rintro⟨h1,h2⟩
     exact⟨⟨by omega,by omega,by omega,by omega,by omega,h1⟩,by omega,h2⟩
    ·rintro⟨⟨_,_,_,_,_,h1⟩,_,h2⟩
     exact⟨h1,h2⟩
theorem Rl {n:Int}{e:List Fh}:fJ n e=0↔0≤n∧n≤4096∧good n (-1) e∧Ye n e:=by
 unfold fJ;split
 ·constructor
  ·intro h;cases h
  ·omega
 ·rw[Wm]
  constructor
  ·rintro⟨h1,h2⟩;exact⟨by omega,by omega,h1,h2⟩
  ·rintro⟨_,_,h1,h2⟩;exact⟨h1,h2⟩
def Yh (l:List Int):Nat→List Fh→List Int
 |at_,[]=>l.drop at_
 |at_,s::e=>(l.drop at_).take (s.f.toNat-at_)++s.x++Yh l s.t.toNat e
theorem fS (l:List Int){a b:Nat}(h:a≤b)(hb:b≤l.length):((l.drop a).take (b-a)).length=b-a:=by
 rw[List.length_take,List.length_drop];omega
theorem sP (l:List Int){a b:Nat}(h:a≤b):(l.drop a).take (b-a)++l.drop b=l.drop a:=by
 have:l.drop b=(l.drop a).drop (b-a):=by rw[List.drop_drop];congr 1;omega
 rw[this,List.take_append_drop]
def gE (e:List Fh)(k:Nat):Fh:=e[k]?.getD ⟨0,0,[]⟩
def Yo (w:World)(xs:List Value)(e:List Fh):Prop:=
 xs.length=e.length*3∧∀i,i<e.length→∃B m d,xs[i*3]? = some (.int .i64 (gE e i).f)∧xs[i*3+1]? = some (.int .i64 (gE e i).t)∧xs[i*3+2]? = some (.slice B m d)∧Bi w B m d (gE e i).x∧(B=none→d=0)
def Hf (w:World)(A:Option Addr)(n c:Nat)(e:List Fh):Prop:=∃xs,Rd w 3 A n c xs∧Yo w xs e
theorem Yo.ext {w w':World}{xs:List Value}{e:List Fh}(h:Yo w xs e)(he:Al w w'):Yo w' xs e:=
 ⟨h.1,fun i hi=>let ⟨B,m,d,h1,h2,h3,h4,h5⟩:=h.2 i hi;⟨B,m,d,h1,h2,h3,h4.ext he,h5⟩⟩
theorem Hf.ext {w w':World}{e:List Fh}(h:Hf w A n c e)(he:Al w w'):Hf w' A n c e:=
 let ⟨xs,h1,h2⟩:=h;⟨xs,h1.ext he,h2.ext he⟩
theorem Hf.len {e:List Fh}(h:Hf w A n c e):e.length=n:=by
 obtain⟨xs,h1,h2⟩:=h;have:=h1.len;have:=h2.1;omega
theorem Hf.ncap {e:List Fh}(h:Hf w A n c e):n≤c:=let ⟨xs,h1,h2⟩:=h;h1.ncap
theorem Hf.nmax {e:List Fh}(h:Hf w A n c e):c≤maxLen:=let ⟨xs,h1,h2⟩:=h;h1.nmax
theorem Hf.at_ {e:List Fh}(h:Hf w A n c e)(hk:k<n):
 ∃ad B m d,A=some ad∧w.cell? (ad.add (k*3))=some (.int .i64 (gE e k).f)∧w.cell? ⟨(ad.add (k*3)).block,(ad.add (k*3)).off+1,none⟩=some (.int .i64 (gE e k).t)∧w.cell? ⟨(ad.add (k*3)).block,(ad.add (k*3)).off+2,none⟩=some (.slice B m d)∧Bi w B m d (gE e k).x∧(B=none→d=0):=by
 have hl:=h.len;obtain⟨xs,h1,h2⟩:=h;obtain⟨ad,hA,hc⟩:=h1.at_ hk;obtain⟨B,m,d,k1,k2,k3,k4,k5⟩:=h2.2 k (by omega)
 refine⟨ad,B,m,d,hA,hc _ _ k1,?_,?_,k4,k5⟩
 ·exact I127
 ·have:=hc _ _ k3
  rw[←Kj]at this;exact this
theorem Hf.none_ (w:World):Hf w none 0 0 []:=⟨[],Rd.none_ w 3,rfl,fun i hi=>absurd hi (by simp)⟩
def Cn (c:Int):Int:=if c=40 then 41 else if c=91 then 93 else if c=123 then 125 else if c=41 then 40 else if c=93 then 91 else if c=125 then 123 else 0
def Lm (c:Int):Bool:=decide (c=41∨c=93∨c=125)
theorem eQ {c:Int}(h:Cn c≠0):Cn (Cn c)=c:=by
 unfold Cn at h ⊢
 repeat' split at h
 all_goals first|(subst_vars;rfl)|simp at h
theorem vB (c:Int):0≤Cn c∧Cn c≤125:=by
 unfold Cn
 repeat' split
 all_goals omega
abbrev tV:=(Int→List Nat)×(Nat→Int)
def Dp (p:Nat→Int)(i:Nat)(v:Int):Nat→Int:=fun x=>if x=i then v else p x
def Kl (st:Int→List Nat)(c:Int)(v:List Nat):Int→List Nat:=fun x=>if x=c then v else st x
def Lx (c:Int)(i:Nat)(s:tV):tV:=
 if Cn c=0 then(s.1,Dp s.2 i (-1))
 else if Lm c=false then(Kl s.1 c (s.1 c++[i]),Dp s.2 i (-1))
 else match (s.1 (Cn c)).getLast? with
  |none=>(s.1,Dp s.2 i (-1))
  |some k=>(Kl s.1 (Cn c) (s.1 (Cn c)).dropLast,Dp (Dp s.2 i k) k i)
def Eh (l:List Int):Nat→tV
 |0=>(fun _=>[],fun _=>0)
 |i+1=>Lx (gI l i) i (Eh l i)
theorem Nu {l:List Nat}(h:l.getLast? = some k):l.dropLast++[k]=l:=by
 obtain⟨h1,h2⟩:=List.getLast?_eq_some_iff.1 h;rw[h2];simp
structure DI (l:List Int)(i:Nat)(st:Int→List Nat)(p:Nat→Int):Prop where
 sorted:∀c,(st c).Pairwise (· < ·)
 mem:∀c,∀k∈st c,k<i∧gI l k=c∧Cn c≠0∧Lm c=false∧p k = -1
 part:∀j,j<i→p j = -1∨∃m:Nat,p j=m∧m<i∧p m=j∧m≠j∧Cn (gI l j)=gI l m∧Lm (gI l j)=decide (m<j)∧Cn (gI l j)≠0
 apart:∀x y:Nat,x<y→y<i→p x=y→∀k∈st (gI l x),k<x∨y<k
 nest:∀x y u v:Nat,x<y→y<i→u<v→v<i→p x=y→p u=v→gI l x=gI l u→x<u→u<y→v<y
 none_:∀j,j<i→p j = -1→Cn (gI l j)≠0→Lm (gI l j)=false→j∈st (gI l j)
theorem DI.start (l:List Int):DI l 0 (Eh l 0).1 (Eh l 0).2 where
 sorted:=fun _=>.nil
 mem:=fun _ _ h=>by cases h
 part:=fun _ h=>absurd h (by omega)
 apart:=fun _ _ _ h=>absurd h (by omega)
 nest:=fun _ _ _ _ _ h=>absurd h (by omega)
 none_:=fun _ h=>absurd h (by omega)
theorem DI.plain (h:DI l i st p)(hc:Cn (gI l i)=0∨Lm (gI l i)=true):DI l (i+1) st (Dp p i (-1)):=by
 have hu:∀j,j<i→Dp p i (-1) j=p j:=fun j hj=>if_neg (by omega)
 have hi:Dp p i (-1) i = -1:=if_pos rfl;refine⟨h.sorted,?_,?_,?_,?_,?_⟩
 ·intro c k hk
  obtain⟨h1,h2,h3,h4,h5⟩:=h.mem c k hk;exact⟨by omega,h2,h3,h4,by rw[hu k h1];exact h5⟩
 ·intro j hj
  rcases At j i with h1|h1
  ·show Dp p i (-1) j = -1∨_
   rcases h.part j h1 with h2|⟨m,h2,h3,h4,h5⟩
   ·exact .inl (by rw[hu j h1];exact h2)
   ·exact .inr ⟨m,by rw[hu j h1];exact h2,by omega,by rw[hu m h3];exact h4,h5⟩
  ·obtain rfl:j=i:=by omega
   exact .inl hi
 ·intro x y hxy hy hp k hk
  rcases At y i with h1|h1
  ·exact h.apart x y hxy h1 (by rw[←hu x (by omega)];exact hp) k hk
  ·obtain rfl:y=i:=by omega
   have hp':p x=y:=by rw[←hu x hxy];exact hp
   rcases h.part x hxy with h2|⟨m,h2,h3,_⟩
   ·rw[h2]at hp';omega
   ·rw[h2]at hp';omega
 ·intro x y u v hxy hy huv hv hp hq he hxu huy
  have hx:x<i:=by omega
  have hu':u<i:=by omega
  have hp':p x=y:=by rw[←hu x hx];exact hp
  have hq':p u=v:=by rw[←hu u hu'];exact hq
  have hy':y<i:=by
   exact I62
  have hv':v<i:=by
   rcases h.part u hu' with h2|⟨m,h2,h3,_⟩<;>omega
  exact I131
 ·intro j hj h1 h2 h3
  rcases At j i with h4|h4
  ·exact h.none_ j h4 (by rw[←hu j h4];exact h1) h2 h3
  ·obtain rfl:j=i:=by omega
   rcases hc with hc|hc
   ·exact absurd hc h2
   ·rw[hc]at h3;cases h3
theorem DI.push (h:DI l i st p)(ho:Cn (gI l i)≠0)(hc:Lm (gI l i)=false):DI l (i+1) (Kl st (gI l i) (st (gI l i)++[i])) (Dp p i (-1)):=by
 have hu:∀j,j<i→Dp p i (-1) j=p j:=fun j hj=>if_neg (by omega)
 have hi:Dp p i (-1) i = -1:=if_pos rfl;have hmem:∀c k,k∈Kl st (gI l i) (st (gI l i)++[i]) c↔k∈st c∨(c=gI l i∧k=i):=by
  intro c k;unfold Kl;by_cases e:c=gI l i
  ·subst e;simp
  ·simp[e]
 have hlt:∀x y:Nat,x<i→p x=y→x<y→y<i:=by
  intro x y hx hp hxy;exact I62
 refine⟨?_,?_,?_,?_,?_,?_⟩
 ·intro c
  show(Kl st (gI l i) (st (gI l i)++[i]) c).Pairwise _
  unfold Kl;by_cases e:c=gI l i
  ·subst e
   rw[if_pos rfl,List.pairwise_append];exact⟨h.sorted _,by simp,fun a ha b hb=>by
    obtain rfl:=Et.1 hb;exact(h.mem _ a ha).1⟩
  ·rw[if_neg e];exact h.sorted c
 ·intro c k hk
  rcases(hmem c k).1 hk with h1|⟨rfl,rfl⟩
  ·obtain⟨h1,h2,h3,h4,h5⟩:=h.mem c k h1
   exact⟨by omega,h2,h3,h4,by show Dp p i (-1) k = -1;rw[hu k h1];exact h5⟩
  ·exact⟨by omega,rfl,ho,hc,hi⟩
 ·intro j hj
  show Dp p i (-1) j = -1∨_
  rcases At j i with h1|h1
  ·rcases h.part j h1 with h2|⟨m,h2,h3,h4,h5⟩
   ·exact .inl (by rw[hu j h1];exact h2)
   ·exact .inr ⟨m,by show Dp p i (-1) j=m;rw[hu j h1];exact h2,by omega,by show Dp p i (-1) m=j;rw[hu m h3];exact h4,h5⟩
  ·obtain rfl:j=i:=by omega
   exact .inl hi
 ·intro x y hxy hy hp k hk
  have hx:x<i:=by omega
  have hp':p x=y:=by rw[←hu x hx];exact hp
  have hy':=hlt x y hx hp' hxy;rcases(hmem _ k).1 hk with h1|⟨_,rfl⟩
  ·exact h.apart x y hxy hy' hp' k h1
  ·exact .inr hy'
 ·intro x y u v hxy hy huv hv hp hq he hxu huy
  have hx:x<i:=by omega
  have hu':u<i:=by omega
  have hp':p x=y:=by rw[←hu x hx];exact hp
  have hq':p u=v:=by rw[←hu u hu'];exact hq
  exact h.nest x y u v hxy (hlt x y hx hp' hxy) huv (hlt u v hu' hq' huv) hp' hq' he hxu huy
 ·intro j hj h1 h2 h3
  rcases At j i with h4|h4
  ·exact(hmem _ j).2 (.inl (h.none_ j h4 (by rw[←hu j h4];exact h1) h2 h3))
  ·obtain rfl:j=i:=by omega
   exact(hmem _ j).2 (.inr ⟨rfl,rfl⟩)
theorem DI.pop (h:DI l i st p)(ho:Cn (gI l i)≠0)(hc:Lm (gI l i)=true)(hk:(st (Cn (gI l i))).getLast? = some k):
 DI l (i+1) (Kl st (Cn (gI l i)) (st (Cn (gI l i))).dropLast) (Dp (Dp p i k) k i)∧k<i:=by
 have hsplit:st (Cn (gI l i))=(st (Cn (gI l i))).dropLast++[k]:=(Nu hk).symm;have hkm:k∈st (Cn (gI l i)):=by rw[hsplit];simp
 obtain⟨hki,hkc,_,hkclo,hkp⟩:=h.mem _ k hkm;have hlast:∀a∈(st (Cn (gI l i))).dropLast,a<k:=by
  have:=h.sorted (Cn (gI l i));rw[hsplit,List.pairwise_append]at this;intro a ha;exact this.2.2 a ha k (by simp)
 have hu:∀j,j<i→j≠k→Dp (Dp p i k) k i j=p j:=fun j hj hne=>by
  unfold Dp;rw[if_neg hne,if_neg (by omega)]
 have huk:Dp (Dp p i k) k i k=i:=if_pos rfl;have hui:Dp (Dp p i k) k i i=k:=by unfold Dp;rw[if_neg (by omega),if_pos rfl]
 have hnk:∀j m:Nat,j<i→p j=m→j≠k→m≠k:=by
  intro j m hj hp hne hmk;subst hmk;rcases h.part j hj with h2|⟨m',h2,h3,h4,h5⟩
  ·omega
  ·obtain rfl:m'=m:=by omega
   rw[hkp]at h4;omega
 have hmem:∀c a,a∈Kl st (Cn (gI l i)) (st (Cn (gI l i))).dropLast c→a∈st c∧a≠k:=by
  intro c a ha;unfold Kl at ha;by_cases e:c=Cn (gI l i)
  ·subst e
   rw[if_pos rfl]at ha;have h1:=hlast a ha;exact⟨by rw[hsplit];simp[ha],by omega⟩
  ·rw[if_neg e]at ha
   refine⟨ha,fun e2=>e ?_⟩
   subst e2;rw[←(h.mem c a ha).2.1,hkc]
 refine⟨⟨?_,?_,?_,?_,?_,?_⟩,hki⟩
 ·intro c
  show(Kl st (Cn (gI l i)) (st (Cn (gI l i))).dropLast c).Pairwise _
  unfold Kl;by_cases e:c=Cn (gI l i)
  ·subst e
   rw[if_pos rfl];exact(h.sorted _).sublist (List.dropLast_sublist _)
  ·rw[if_neg e];exact h.sorted c
 ·intro c a ha
  obtain⟨h1,h2⟩:=hmem c a ha;obtain⟨h3,h4,h5,h6,h7⟩:=h.mem c a h1;exact⟨by omega,h4,h5,h6,by show Dp (Dp p i k) k i a = -1;rw[hu a h3 h2];exact h7⟩
 ·intro j hj
  show Dp (Dp p i k) k i j = -1∨_
  by_cases hjk:j=k
  ·subst hjk
   refine .inr ⟨i,huk,by omega,hui,by omega,?_,?_,?_⟩
   ·rw[hkc];exact eQ ho
   ·rw[hkc,hkclo];simp;omega
   ·rw[hkc,eQ ho]
    intro e;rw[e]at ho;exact ho rfl
  ·rcases At j i with h1|h1
   ·rcases h.part j h1 with h2|⟨m,h2,h3,h4,h5⟩
    ·exact .inl (by rw[hu j h1 hjk];exact h2)
    ·exact .inr ⟨m,by show Dp (Dp p i k) k i j=m;rw[hu j h1 hjk];exact h2,by omega,by show Dp (Dp p i k) k i m=j;rw[hu m h3 (hnk j m h1 h2 hjk)];exact h4,h5⟩
   ·obtain rfl:j=i:=by omega
    refine .inr ⟨k,hui,by omega,huk,by omega,hkc.symm,?_,ho⟩
    rw[hc];simp;omega
 ·intro x y hxy hy hp a ha
  obtain⟨ha1,ha2⟩:=hmem _ a ha;by_cases hxk:x=k
  ·subst hxk
   left
   have e:gI l x=Cn (gI l i):=hkc;unfold Kl at ha;rw[if_pos e]at ha;exact hlast a ha
  ·have hx:x<i:=by omega
   have hp':p x=y:=by rw[←hu x hx hxk];exact hp
   have hy':y<i:=by
    exact I62
   exact h.apart x y hxy hy' hp' a ha1
 ·intro x y u v hxy hy huv hv hp hq he hxu huy
  have hx:x<i:=by omega
  have hul:u<i:=by omega
  by_cases hxk:x=k
  ·-- the new pair is the outer one
   subst hxk;have:y=i:=by have:=huk;rw[show Dp (Dp p i x) x i x=y from hp]at this;omega
   subst this;have hq':p u=v:=by rw[←hu u hul (by omega)];exact hq
   exact I126
  ·have hp':p x=y:=by rw[←hu x hx hxk];exact hp
   have hy':y<i:=by
    exact I62
   by_cases huk':u=k
   ·-- the new pair is the inner one: it can't be
    subst huk';have:=h.apart x y hxy hy' hp' u (by rw[he,hkc];exact hkm)
    omega
   ·have hq':p u=v:=by rw[←hu u hul huk'];exact hq
    have hv':v<i:=by
     exact I126
    exact I131
 ·intro j hj h1 h2 h3
  have hjk:j≠k:=by
   intro e;subst e;rw[show Dp (Dp p i j) j i j=(-1:Int)from h1]at huk
   omega
  rcases At j i with h4|h4
  ·have h5:=h.none_ j h4 (by rw[←hu j h4 hjk];exact h1) h2 h3
   show j∈Kl st (Cn (gI l i)) (st (Cn (gI l i))).dropLast (gI l j)
   unfold Kl;by_cases e:gI l j=Cn (gI l i)
   ·rw[if_pos e]
    rw[e,hsplit]at h5;rcases List.mem_append.1 h5 with h6|h6
    ·exact h6
    ·exact absurd (Et.1 h6) hjk
   ·rw[if_neg e];exact h5
  ·obtain rfl:j=i:=by omega
   rw[hc]at h3;cases h3
theorem Sa {c:Int}{s:tV}(h:Cn c=0):Lx c i s=(s.1,Dp s.2 i (-1)):=by unfold Lx;rw[if_pos h]
theorem Ui {c:Int}{s:tV}(h:Cn c≠0)(hc:Lm c=false):Lx c i s=(Kl s.1 c (s.1 c++[i]),Dp s.2 i (-1)):=by unfold Lx;rw[if_neg h,if_pos hc]
theorem Uj {c:Int}{s:tV}(h:Cn c≠0)(hc:Lm c=true)(he:s.1 (Cn c)=[]):Lx c i s=(s.1,Dp s.2 i (-1)):=by
 unfold Lx;rw[if_neg h,if_neg (by rw[hc];simp),he];rfl
theorem Wj {c:Int}{s:tV}(h:Cn c≠0)(hc:Lm c=true)(he:(s.1 (Cn c)).getLast? = some k):Lx c i s=(Kl s.1 (Cn c) (s.1 (Cn c)).dropLast,Dp (Dp s.2 i k) k i):=by
 unfold Lx;rw[if_neg h,if_neg (by rw[hc];simp),he]
theorem Xq (l:List Int):∀i,DI l i (Eh l i).1 (Eh l i).2
 |0=>DI.start l
 |i+1=>by
  have h:=Xq l i
  show DI l (i+1) (Lx (gI l i) i (Eh l i)).1 (Lx (gI l i) i (Eh l i)).2
  by_cases h1:Cn (gI l i)=0
  ·rw[Sa h1];exact h.plain (.inl h1)
  ·cases hc:Lm (gI l i)with
   |false=>rw[Ui h1 hc];exact h.push h1 hc
   |true=>
    cases he:((Eh l i).1 (Cn (gI l i))).getLast? with
    |none=>rw[Uj h1 hc (List.getLast?_eq_none_iff.1 he)];exact h.plain (.inr hc)
    |some k=>rw[Wj h1 hc he];exact(h.pop h1 hc he).1
def Jo (l:List Int)(i:Nat):List Int:=(List.range l.length).map fun j=>if j<i then(Eh l i).2 j else 0
def D6 (l:List Int):List Int:=(List.range l.length).map fun j=>(Eh l l.length).2 j
theorem Tv (l:List Int)(i:Nat):(Jo l i).length=l.length:=by simp[Jo]
theorem cE (l:List Int):(D6 l).length=l.length:=by simp[D6]
theorem mG (l:List Int):Jo l l.length=D6 l:=by
 apply List.ext_getElem
 ·simp[Jo,D6]
 ·intro j h1 h2
  simp[Jo]at h1;simp[Jo,D6,h1]
theorem cB (l:List Int):Jo l 0=List.replicate l.length 0:=by
 apply List.ext_getElem
 ·simp[Jo]
 ·intro j h1 h2;simp[Jo]
theorem Pa (h:(Eh l (i+1)).2=Dp (Eh l i).2 i (-1)):Jo l (i+1)=(Jo l i).set i (-1):=by
 apply List.ext_getElem
 ·simp[Jo]
 ·intro j h1 h2
  rw[List.getElem_set];simp[Jo,h,Dp];by_cases e:i=j
  ·subst e;simp
  ·rw[if_neg e]
   by_cases h3:j<i
   ·rw[if_pos (by omega),if_pos h3,if_neg (by omega)]
   ·rw[if_neg (by omega),if_neg h3]
theorem mF (hk:k<i)(h:(Eh l (i+1)).2=Dp (Dp (Eh l i).2 i k) k i):Jo l (i+1)=(((Jo l i).set i (-1)).set i k).set k i:=by
 apply List.ext_getElem
 ·simp[Jo]
 ·intro j h1 h2
  rw[List.getElem_set,List.getElem_set,List.getElem_set];simp[Jo,h,Dp];by_cases e:k=j
  ·subst e;simp;omega
  ·rw[if_neg e]
   by_cases e2:i=j
   ·subst e2;simp;omega
   ·rw[if_neg e2]
    by_cases h3:j<i
    ·rw[if_pos (by omega),if_pos h3,if_neg (by omega),if_neg (by omega),if_neg e2]
    ·rw[if_neg (by omega),if_neg h3,if_neg e2]
theorem Rb {j:Nat}(h:j<l.length):gI (D6 l) j=(Eh l l.length).2 j:=by simp[gI,D6,h]
def T9 (l:List Int)(k i m:Nat):Prop:=k≤i∧i<l.length∧Cn (gI l i)≠0∧(∀j,k≤j→j<i→Cn (gI l j)=0)∧gI (D6 l) i=(m:Int)∧m<l.length
def wX (l:List Int)(k:Nat):Prop:=∀i,k≤i→i<l.length→Cn (gI l i)≠0→(∀j,k≤j→j<i→Cn (gI l j)=0)→gI (D6 l) i<0
theorem dD {k i m i' m':Nat}(h:T9 l k i m)(h':T9 l k i' m'):i=i'∧m=m':=by
 obtain⟨h1,h2,h3,h4,h5,h6⟩:=h;obtain⟨g1,g2,g3,g4,g5,g6⟩:=h';have e:i=i':=by
  rcases Nat.lt_trichotomy i i' with h|h|h
  ·exact absurd (g4 i h1 h) h3
  ·exact h
  ·exact absurd (h4 i' g1 h) g3
 subst e;exact⟨rfl,by omega⟩
theorem Wc {k i m:Nat}(h:T9 l k i m):¬wX l k:=fun h'=>by
 obtain⟨h1,h2,h3,h4,h5,h6⟩:=h;have:=h' i h1 h2 h3 h4;omega
def Hc (l:List Int)(c:Int):Nat→Nat→Nat→Option Nat
 |0,_,_=>none
 |f+1,i,g=>if gI l i=c then(if g=1 then some i else Hc l c f (i+1) (g-1))else Hc l c f (i+1) g
def Jd (l:List Int)(c:Int):Nat→Nat→Option Nat
 |0,_=>none
 |m+1,g=>if gI l m=c then(if g=1 then some m else Jd l c m (g-1))else Jd l c m g
def Nw (s:Nat→Nat):Nat→Nat→Nat
 |0,k=>k
 |g+1,k=>s (Nw s g k)
def F9 (l:List Int):Nat:=if Eg l true 0 0<l.length then Eg l true 0 0 else l.length-1
def E3 (l:List Int)(k:Nat)(key:Int)(g:Nat)(op:Bool):Option (Nat×Bool):=
 if key=104 then(if k=0 then none else some (k-g,false))
 else if key=108 then(if(if op=true then l.length else l.length-1)≤k then none else some (min (if op=true then l.length else l.length-1) (k+g),false))
 else if key=48 then some (0,false)
 else if key=94 then some (F9 l,false)
 else if key=98 then(if k=0 then none else some (Nw (Fj l · false) g k,false))
 else if key=66 then(if k=0 then none else some (Nw (Fj l · true) g k,false))
 else if l.length=0 then none
 else if key=36 then some (l.length-1,true)
 else if key=124 then some (min g l.length-1,false)
 else if key=119 then(if op=true then some (Nw (Fd l · false) g k,false)else if min (Nw (Fd l · false) g k) (l.length-1)=k then none else some (min (Nw (Fd l · false) g k) (l.length-1),false))
 else if key=87 then(if op=true then some (Nw (Fd l · true) g k,false)else if min (Nw (Fd l · true) g k) (l.length-1)=k then none else some (min (Nw (Fd l · true) g k) (l.length-1),false))
 else if key=101 then(if op=false∧Nw (Cl l · false) g k=k then none else some (Nw (Cl l · false) g k,true))
 else if key=69 then(if op=false∧Nw (Cl l · true) g k=k then none else some (Nw (Cl l · true) g k,true))
 else none
def C8 (l:List Int)(k:Nat)(key:Int)(g:Nat)(op:Bool)(o:Option (Nat×Bool)):Prop:=
 if key=37 then(∃i m,T9 l k i m∧o=some (m,true))∨(wX l k∧o=none)else o=E3 l k key g op
def Xg (l:List Int)(k:Nat)(key arg:Int)(g:Nat):Option (Nat×Bool):=
 if key=102 then(Hc l arg (l.length-(k+1)) (k+1) g).map (·,true)
 else if key=116 then(Hc l arg (l.length-(k+1)) (k+1) g).map (· - 1,true)
 else if key=70 then(Jd l arg k g).map (·,false)
 else(Jd l arg k g).map (· + 1,false)
def J0 (key:Int):Bool:=decide (key=102∨key=116∨key=70∨key=84)
def Jr (key:Int):Bool:=decide (key=104∨key=108∨key=48∨key=94∨key=36∨key=124∨key=119∨key=87∨key=98∨key=66∨key=101∨key=69∨key=37)
def Ya (l:List Int)(k:Nat)(key arg:Int)(g:Nat)(op:Bool)(o:Option (Nat×Bool)):Prop:=
 if J0 key=true then o=Xg l k key arg g else C8 l k key g op o
theorem Qd {l:List Int}{c:Int}:∀{f i g j:Nat},Hc l c f i g=some j→i≤j∧j<i+f
 |0,_,_,_,h=>by simp[Hc]at h
 |f+1,i,g,j,h=>by
  unfold Hc at h;split at h
  ·split at h
   ·simp at h;omega
   ·have:=Qd h;omega
  ·have:=Qd h;omega
theorem Qe {l:List Int}{c:Int}:∀{m g j:Nat},Jd l c m g=some j→j<m
 |0,_,_,h=>by simp[Jd]at h
 |m+1,g,j,h=>by
  unfold Jd at h;split at h
  ·split at h
   ·simp at h;omega
   ·have:=Qe h;omega
  ·have:=Qe h;omega
theorem Ln {s:Nat→Nat}{n:Nat}(hs:∀k,k≤n→s k≤n):∀g {k:Nat},k≤n→Nw s g k≤n
 |0,k,h=>h
 |g+1,k,h=>hs _ (Ln hs g h)
theorem aV {s:Nat→Nat}{n:Nat}(hs:∀k,k≤n→s k<n):∀g {k:Nat},k<n→Nw s g k<n
 |0,k,h=>h
 |g+1,k,h=>hs _ (Nat.le_of_lt (aV hs g h))
theorem Qb (hk:k≤l.length):Fd l k big≤l.length:=(Zz (big:=big) hk).2.1
theorem eZ (hk:k≤l.length)(h0:0<l.length):Cl l k big<l.length:=by
 exact I130
theorem fA (hk:k≤l.length):Cl l k big≤l.length:=by
 exact I130
theorem iX (l:List Int):F9 l≤l.length-1:=by unfold F9;split<;>omega
theorem Ws:∀k,k≤l.length→Fj l k big≤l.length:=fun k hk=>Ap (Lg hk) hk
theorem kZ {key arg:Int}{g:Nat}{op:Bool}{o:Option (Nat×Bool)}(hk:k≤l.length-1)(hg:1≤g)(h:Ya l k key arg g op o){a:Nat}{i:Bool}(ho:o=some (a,i)):
 a≤l.length∧(op=false→a≤l.length-1)∧(i=true→a<l.length):=by
 have hkl:k≤l.length:=by omega
 subst ho;unfold Ya at h;split at h
 ·unfold Xg at h
  split at h
  ·exact I60
  split at h
  ·exact I60
  split at h
  ·exact I56
  ·exact I56
 ·unfold C8 at h
  split at h
  ·rcases h with⟨i',m,hf,he⟩|⟨_,he⟩
   ·injection he with he
    injection he with he1 he2;subst he1;subst he2;have h1:=hf.2.2.2.2.2;simp;omega
   ·cases he
  ·have e1:=Ln (fun k hk=>Qb (l:=l) (big:=false) hk) g hkl
   have e2:=Ln (fun k hk=>Qb (l:=l) (big:=true) hk) g hkl
   have e3:=Ln (Ws (l:=l) (big:=false)) g hkl;have e4:=Ln (Ws (l:=l) (big:=true)) g hkl;have e5:=Ln (fun k hk=>Ap (Lg (l:=l) (big:=false) (Ap hk (Nat.sub_le _ _))) hk) g hk
   have e6:=Ln (fun k hk=>Ap (Lg (l:=l) (big:=true) (Ap hk (Nat.sub_le _ _))) hk) g hk
   have e7:=iX l;have e8:0<l.length→Nw (Cl l · false) g k<l.length:=fun h0=>aV (fun k hk=>eZ hk h0) g (by omega)
   have e9:0<l.length→Nw (Cl l · true) g k<l.length:=fun h0=>aV (fun k hk=>eZ hk h0) g (by omega)
   unfold E3 at h;generalize Nw (Cl l · false) g k=x1 at*;generalize Nw (Cl l · true) g k=x2 at*;generalize Nw (Fd l · false) g k=x3 at*;generalize Nw (Fd l · true) g k=x4 at*;generalize Nw (Fj l · false) g k=x5 at*;generalize Nw (Fj l · true) g k=x6 at*;generalize F9 l=x7 at*;by_cases k1:key=104
   ·rw[if_pos k1]at h;by_cases j:k=0
    ·rw[if_pos j]at h;cases h
    ·rw[if_neg j]at h;cases h;simp;omega
   rw[if_neg k1]at h;by_cases k2:key=108
   ·rw[if_pos k2]at h
    cases op
    ·simp only[Bool.false_eq_true,if_false]at h
     by_cases j:l.length-1≤k
     ·rw[if_pos j]at h;cases h
     ·rw[if_neg j]at h;cases h;simp;omega
    ·simp only[if_true]at h
     by_cases j:l.length≤k
     ·rw[if_pos j]at h;cases h
     ·rw[if_neg j]at h;cases h;simp;omega
   rw[if_neg k2]at h;by_cases k3:key=48
   ·rw[if_pos k3]at h;cases h;simp
   rw[if_neg k3]at h;by_cases k4:key=94
   ·rw[if_pos k4]at h;cases h;simp;omega
   rw[if_neg k4]at h;by_cases k5:key=98
   ·rw[if_pos k5]at h;by_cases j:k=0
    ·rw[if_pos j]at h;cases h
    ·rw[if_neg j]at h;cases h;simp;exact⟨e3,fun _=>e5⟩
   rw[if_neg k5]at h;by_cases k6:key=66
   ·rw[if_pos k6]at h;by_cases j:k=0
    ·rw[if_pos j]at h;cases h
    ·rw[if_neg j]at h;cases h;simp;exact⟨e4,fun _=>e6⟩
   rw[if_neg k6]at h;by_cases k7:l.length=0
   ·rw[if_pos k7]at h;cases h
   rw[if_neg k7]at h;have e8':=e8 (by omega)
   have e9':=e9 (by omega)
   by_cases k8:key=36
   ·rw[if_pos k8]at h;cases h;simp;omega
   rw[if_neg k8]at h;by_cases k9:key=124
   ·rw[if_pos k9]at h;cases h;simp;omega
   rw[if_neg k9]at h;by_cases k10:key=119
   ·rw[if_pos k10]at h
    cases op
    ·simp only[Bool.false_eq_true,if_false]at h
     by_cases j:min x3 (l.length-1)=k
     ·rw[if_pos j]at h;cases h
     ·rw[if_neg j]at h;cases h;simp;omega
    ·simp only[if_true]at h
     cases h;simp;exact e1
   rw[if_neg k10]at h;by_cases k11:key=87
   ·rw[if_pos k11]at h
    cases op
    ·simp only[Bool.false_eq_true,if_false]at h
     by_cases j:min x4 (l.length-1)=k
     ·rw[if_pos j]at h;cases h
     ·rw[if_neg j]at h;cases h;simp;omega
    ·simp only[if_true]at h
     cases h;simp;exact e2
   rw[if_neg k11]at h;by_cases k12:key=101
   ·rw[if_pos k12]at h
    by_cases j:op=false∧x1=k
    ·rw[if_pos j]at h;cases h
    ·rw[if_neg j]at h;cases h;simp;omega
   rw[if_neg k12]at h;by_cases k13:key=69
   ·rw[if_pos k13]at h
    by_cases j:op=false∧x2=k
    ·rw[if_pos j]at h;cases h
    ·rw[if_neg j]at h;cases h;simp;omega
   rw[if_neg k13]at h;cases h
theorem Sv {key arg:Int}{g:Nat}{op:Bool}{o o':Option (Nat×Bool)}(h:Ya l k key arg g op o)(h':Ya l k key arg g op o'):o=o':=by
 unfold Ya at h h';split at h
 ·rename_i hf
  rw[if_pos hf]at h';rw[h,h']
 ·rename_i hf
  rw[if_neg hf]at h';unfold C8 at h h';split at h
  ·rename_i hk
   rw[if_pos hk]at h';rcases h with⟨i,m,h1,rfl⟩|⟨h1,rfl⟩<;>rcases h' with⟨i',m',h2,rfl⟩|⟨h2,rfl⟩
   ·rw[(dD h1 h2).2]
   ·exact absurd h2 (Wc h1)
   ·exact absurd h1 (Wc h2)
   ·rfl
  ·rename_i hk
   rw[if_neg hk]at h';rw[h,h']
def Me (c:Int):Prop:=32≤c∧c≠127
theorem sR {c:Int}(h:Me c):Calls Tryz.prog 96 #[.int .i64 c] w fun e w'=>e=.returned (.bool false)∧w'=w:=by
 obtain⟨h1,h2⟩:=h;have h3:(c==127)=false:=by simpa using h2
 have h4:decide (c<32)=false:=by simpa using h1
 clear h2;go_enter Tryz.func96,Tryz.ntmps96
 go_wp2_with fail
 go_ret
 exact⟨rfl,rfl⟩
theorem rT (hl:Bi w A n c l)(hg:∀k,k<n→Me (gI l k)):
 Calls Tryz.prog 115 #[.slice A n c,.func (.func 96) #[] #[]] w fun e w'=>e=.returned (.int .i64 (-1))∧w'=w:=by
 have h1:=hl.ncap;have h2:=hl.nmax;unfold maxLen at h2;have HG:=A4 hg;clear hg;go_enter Tryz.func115,Tryz.ntmps115
 go_wp2_with fail
 go_loopw [8] (fun i wr=>∃k:Nat,k≤n∧i=.int .i64 k∧wr=w) (fun i _=>n-(intOf i).toNat)
 case atStart=>exact⟨0,by omega,rfl,rfl⟩
 case round=>
  obtain⟨k,hk,rfl,rfl⟩:=hrel;by_cases hlt:k<n
  ·obtain⟨a1,rfl,hc1⟩:=hl.at_ hlt
   have c1:=hc1 k hlt;clear hc1;go_wp2_with fail
   refine(sR (HG.out k hlt)).mono ?_
   rintro e w1 ⟨rfl,rfl⟩;go_wp2_with fail
   go_roundw
   case rel=>exact⟨k+1,by omega,by go_num,trivial⟩
   case measure=>simp[intOf];omega
  ·obtain rfl:k=n:=by omega
   go_wp2_with fail
   go_ret
   exact⟨rfl,rfl⟩
theorem oM (hl:Bi w A n c l)(hg:∀k,k<n→Me (gI l k)):
 Calls Tryz.prog 95 #[.slice A n c,.func (.func 96) #[] #[]] w fun e w'=>e=.returned (.bool false)∧w'=w:=by
 have h1:=hl.ncap;have h2:=hl.nmax;unfold maxLen at h2;have HG:=A4 hg;clear hg;go_enter Tryz.func95,Tryz.ntmps95
 go_wp2_with fail
 refine(rT hl HG.out).mono ?_
 rintro e w1 ⟨rfl,rfl⟩;go_wp2_with fail
 go_ret
 exact⟨rfl,rfl⟩
theorem Nv {at_:Int}(hl:Bi w A n c l)(hg:∀k,k<n→Me (gI l k))(h1:2≤n)(h2:n≤120)(h3:0≤at_)(h4:at_≤n):
 Calls Tryz.prog 65 #[.agg #[.slice A n c,.int .i64 at_]] w fun e w'=>e=.returned (.int .i64 0)∧Al w w':=by
 have hnc:=hl.ncap;have hcm:=hl.nmax;unfold maxLen at hcm;have HG:=A4 hg;clear hg;go_enter Tryz.func65,Tryz.ntmps65
 go_wp2_with fail
 refine(oM (hl.ext (Al.alloc _ _)) HG.out).mono ?_
 rintro e w1 ⟨rfl,rfl⟩;go_wp2_with fail
 go_ret
 exact⟨rfl,Al.alloc _ _⟩
theorem An.keepCell {g t:Nat}{cs:Array Value}(h:An w g t cs){p:Addr}(hp:p.block≠g)(u:Value):An (w.setCell p u) g t cs:=by
 exact I99
def Uv (n at_ off width:Int):Prop:=n<0∨n>200∨at_<0∨at_>n∨off<0∨off>200∨width<2∨width>120
instance (n at_ off width:Int):Decidable (Uv n at_ off width):=by unfold Uv;exact inferInstance
def Ph (at_ off width:Int):Int:=if at_<off then at_ else if at_≥off+width then at_-width+1 else off
def Ps (c:Int):Int:=if c<32∨c=127∨c=65533 then 63 else c
theorem dO (c:Int):32≤Ps c∧Ps c≠127:=by unfold Ps;split<;>omega
theorem qI {a b c:Int}(h:a=b):Ending.returned (.tuple #[.int .i64 a,.int .i64 c])=.returned (.tuple #[.int .i64 b,.int .i64 c]):=by rw[h]
theorem Rx {n at_ off width:Int}(h:¬Uv n at_ off width):
 Calls Tryz.prog 35 #[.int .i64 n,.int .i64 at_,.int .i64 off,.int .i64 width] w fun e w'=>e=.returned (.tuple #[.int .i64 (Ph at_ off width),.int .i64 0])∧w'=w:=by
 unfold Uv at h;have h1:0≤n:=by omega
 have h2:n≤200:=by omega
 have h3:0≤at_:=by omega
 have h4:at_≤n:=by omega
 have h5:0≤off:=by omega
 have h6:off≤200:=by omega
 have h7:2≤width:=by omega
 have h8:width≤120:=by omega
 clear h;go_enter Tryz.func35,Tryz.ntmps35
 go_wp2_with fail
 all_goals (go_ret2;refine⟨qI ?_,rfl⟩;unfold Ph;(repeat' split)<;>omega)
theorem sU (c:Int)(w:World):Calls Tryz.prog 63 #[.int .i64 c] w fun e w'=>e=.returned (.int .i64 (Ps c))∧w'=w:=by
 have HF:Hid (∀v,((c<32∨c=127∨c=65533)→v=63)→(¬(c<32∨c=127∨c=65533)→v=c)→v=Ps c):=A4 (fun v h1 h2=>by
  unfold Ps;split
  ·exact h1 ‹_›
  ·exact h2 ‹_›)
 rcases Decidable.em (c=127)with h|h
 ·subst h
  exact I81
 rcases Decidable.em (c=65533)with g|g
 ·subst g
  exact I81
 have b1:(c==127)=false:=by simpa using h
 have b2:(c==65533)=false:=by simpa using g
 have H1:=A4 h;have H2:=A4 g;clear h g;go_enter Tryz.func63,Tryz.ntmps63
 go_wp2_with fail
 all_goals (go_ret;have h1:=H1.out;have h2:=H2.out;refine⟨Hj (HF.out _ ?_ ?_),rfl⟩<;>intro hh<;>first|rfl|omega)
theorem rB {n at_ off width:Int}(h:¬Uv n at_ off width)(hk:Ph at_ off width=off):
 Calls Tryz.prog 62 #[.int .i64 n,.int .i64 at_,.int .i64 off,.int .i64 width] w fun e w'=>e=.returned (.int .i64 0)∧w'=w:=by
 go_enter Tryz.func62,Tryz.ntmps62
 go_wp2_with fail
 refine(Rx h).mono ?_
 rintro e w1 ⟨rfl,rfl⟩;rw[hk];clear hk h;go_wp2_with fail
 go_ret
 exact⟨rfl,rfl⟩
def Lo (l:List Int)(k:Int)(i:Nat):Int:=if k+i<l.length then Ps (gI l (k+i).toNat)else 32
def Hw (l:List Int)(k:Int)(n:Nat):List Int:=(List.range n).map (Lo l k)
theorem gR (l:List Int)(k:Int)(n:Nat):Hw l k (n+1)=Hw l k n++[Lo l k n]:=by unfold Hw;rw[List.range_succ,List.map_append];rfl
theorem Z1 (l:List Int)(k:Int)(n:Nat):(Hw l k n).length=n:=by unfold Hw;simp
theorem qG (l:List Int)(k:Int){n i:Nat}(h:i<n):gI (Hw l k n) i=Lo l k i:=by unfold Hw gI;simp[h]
theorem aD (l:List Int)(k:Int)(i:Nat):Me (Lo l k i):=by
 unfold Lo Me;split
 ·exact dO _
 ·omega
theorem uN {at_ k:Int}{width:Nat}(hl:Bi w A n c l)(h:¬Uv n at_ k width)(hk:Ph at_ k width=k):
 Calls Tryz.prog 36 #[.slice A n c,.int .i64 at_,.int .i64 k,.int .i64 width] w fun e w'=>∃B d,e=.returned (.tuple #[.agg #[.slice B width d,.int .i64 (at_-k)],.int .i64 0])∧Av w' w.heap.size B width d (Hw l k width)∧Al w w':=by
 obtain⟨i0,hi,hz0,hz1,hz2⟩:=info_parts Bz;have HB:=A4 h;have HK:=A4 hk;have hlen:=A4 hl.len;unfold Uv at h;have h1:(n:Int)≤200:=by omega
 have h2:0≤at_:=by omega
 have h3:at_≤n:=by omega
 have h4:0≤k:=by omega
 have h5:k≤200:=by omega
 have h6:2≤width:=by omega
 have h7:width≤120:=by omega
 clear h hk;obtain⟨kn,rfl⟩:=Int.eq_ofNat_of_zero_le h4;have hnc:=hl.ncap;have hcm:=hl.nmax;unfold maxLen at hcm;go_enter Tryz.func36,Tryz.ntmps36
 go_wp2_with fail
 refine(rB HB.out HK.out).mono ?_
 rintro e w1 ⟨rfl,rfl⟩;go_wp2_with fail
 go_loopw [33] (fun i wr=>∃(j:Nat) (B:Option Addr) (d:Nat),j≤width∧i=.int .i64 j∧An wr w.heap.size 43 #[.slice none 0 0,.int .i64 0]∧An wr (w.heap.size+1) 43 #[.slice B j d,.int .i64 (at_-kn)]∧Av wr (w.heap.size+2) B j d (Hw l kn j)∧Al w wr) (fun i _=>width-(intOf i).toNat)
 case atStart=>
  refine⟨0,none,0,by omega,rfl,(An.new _ _ _).ext (Al.alloc _ _),?_,Av.nil _ _,(Al.alloc _ _).to_alloc _⟩
  have:=An.new (w.alloc (Obj.cells #[Aj none 0 0,Aq IntKind.i64 0] 43)) 43 #[Aj none 0 0,Aq IntKind.i64 (at_-kn)]
  simpa using this
 case round=>
  obtain⟨j,B,d,hj,rfl,hb0,hb1,hown,he⟩:=hrel;have f1':=hb1.frozen 0;have c1:=hb1.cell 0;have hbs:=hb1.lt;simp only[Ag,Ae,Af]at c1;by_cases hlt:j<width
  ·by_cases hin:kn+j<n
   ·have N0:=trivial;exact zJ
   ·have N1:=trivial;exact zJ
  ·obtain rfl:j=width:=by omega
   have c2:=hb1.cell 1;have f0:=hb0.frozen 0;have f00:=hb0.frozen 1;have c4:=hb0.cell 0;have c5:=hb0.cell 1;simp only[Ag,Ae,Af]at c2 c4 c5;go_wp2_with fail
   have hbf:An ((wr.setCell ⟨w.heap.size,0,none⟩ (.slice B j d)).setCell ⟨w.heap.size,1,none⟩ (.int .i64 (at_-kn))) w.heap.size 43 #[.slice B j d,.int .i64 (at_-kn)]:=by
    simpa using(hb0.set_ 0 (.slice B j d)).set_ 1 (.int .i64 (at_-kn))
   have c6:=hbf.cell 0;have c7:=hbf.cell 1;simp only[Ag,Ae,Af]at c6 c7;clear c1 c2 c4 c5 f0 f00;refine bodyPost_ret (by simp[results,Tryz.results36,go_sem,c6,c7];try rfl) rfl ?_
   exact⟨B,d,rfl,Ay.lower (Ay.setCell (Ay.setCell hown (by simp) _) (by simp) _) (by omega),(he.setCell (by simp) _).setCell (by simp) _⟩
def Rr (r:List Int×Nat)(c:Int):List Int×Nat:=
 if c=8 then(r.1,r.2-1)else if c=13 then(r.1,0)else if c=11 then(r.1.take r.2++List.replicate (r.1.length-r.2) 32,r.2)
 else if 32≤c∧c≠127∧r.2<r.1.length then(r.1.set r.2 c,r.2+1)else r
def Ck (r:List Int×Nat)(s:List Int):List Int×Nat:=s.foldl Rr r
theorem vU {k j:Nat}{v:Int}(hk:k<l.length):gI (l.set k v) j=if j=k then v else gI l j:=by
 unfold gI;by_cases h:j=k
 ·subst h;rw[if_pos rfl,List.getElem?_set_self hk];rfl
 ·rw[if_neg h,List.getElem?_set_ne (fun e=>h e.symm)]
theorem Q7 (r:List Int×Nat)(a b:List Int):Ck r (a++b)=Ck (Ck r a) b:=by unfold Ck;rw[List.foldl_append]
def Ff (b:List Int)(x y:Nat):List Int:=
 if x≤y then(b.drop x).take (y-x)else if x-y≤1+y then Ar (x-y) 8 else 13::b.take y
def H7 (b:List Int)(j:Nat×List Int)(k:Nat):Nat×List Int:=(k,j.2++Ff b j.1 k)
def Dd (b:List Int)(j:Nat×List Int)(x y:Nat):Nat×List Int:=(y,(H7 b j x).2++(b.drop x).take (y-x))
def Dc (b:List Int)(j:Nat×List Int)(k:Nat):Nat×List Int:=(k,(H7 b j k).2++[11])
def Us (a b:List Int)(to:Nat):Nat→Nat→Nat
 |0,k=>k
 |f+1,k=>if gI a k=gI b k then Us a b to f (k+1)else k
def Ut (a b:List Int)(fr:Nat):Nat→Nat→Nat
 |0,k=>k
 |f+1,k=>if gI a (k-1)=gI b (k-1)then Ut a b fr f (k-1)else k
def Ei (a b:List Int)(x y:Nat):Nat:=Us a b y (y-x) x
def G4 (a b:List Int)(x y:Nat):Nat:=Ut a b (Ei a b x y) (y-Ei a b x y) y
theorem Qh (a b:List Int)(to:Nat):∀(f k:Nat),k≤Us a b to f k∧Us a b to f k≤k+f∧(∀i,k≤i→i<Us a b to f k→gI a i=gI b i)∧(Us a b to f k<k+f→gI a (Us a b to f k)≠gI b (Us a b to f k))
 |0,k=>⟨Ai _,Ai _,fun i h1 h2=>by simp only[Us]at h2;omega,fun h=>by simp[Us]at h⟩
 |f+1,k=>by
  unfold Us;split
  ·rename_i h
   obtain⟨h1,h2,h3,h4⟩:=Qh a b to f (k+1);refine⟨by omega,by omega,fun i hi hl=>?_,fun hl=>h4 (by omega)⟩
   rcases Nat.eq_or_lt_of_le hi with rfl|hlt
   ·exact h
   ·exact h3 i hlt hl
  ·exact I108
theorem U1 (a b:List Int)(fr:Nat):∀(f k:Nat),f≤k→Ut a b fr f k≤k∧k-f≤Ut a b fr f k∧(∀i,Ut a b fr f k≤i→i<k→gI a i=gI b i)∧(k-f<Ut a b fr f k→gI a (Ut a b fr f k-1)≠gI b (Ut a b fr f k-1))
 |0,k,_=>⟨Ai _,by simp[Ut],fun i h1 h2=>by simp only[Ut]at h1;omega,fun h=>by simp[Ut]at h⟩
 |f+1,k,hk=>by
  unfold Ut;split
  ·rename_i h
   obtain⟨h1,h2,h3,h4⟩:=U1 a b fr f (k-1) (by omega)
   refine⟨by omega,by omega,fun i hi hl=>?_,fun hl=>h4 (by omega)⟩
   rcases At i (k-1)with hlt|hge
   ·exact h3 i hi hlt
   ·rw[show i=k-1 by omega];exact h
  ·exact I108
theorem Ke (a b:List Int)(h:x≤y):x≤Ei a b x y∧Ei a b x y≤G4 a b x y∧G4 a b x y≤y∧(∀i,x≤i→i<Ei a b x y→gI a i=gI b i)∧(∀i,G4 a b x y≤i→i<y→gI a i=gI b i):=by
 obtain⟨h1,h2,h3,h4⟩:=Qh a b y (y-x) x;obtain⟨k1,k2,k3,_⟩:=U1 a b (Ei a b x y) (y-Ei a b x y) y (by omega)
 have e1:Ei a b x y=Us a b y (y-x) x:=rfl;have e2:G4 a b x y=Ut a b (Ei a b x y) (y-Ei a b x y) y:=rfl;rw[←e1]at h1 h2 h3;rw[←e2]at k1 k2 k3;exact⟨h1,by omega,k1,h3,k3⟩
theorem jE (a b:List Int)(h:x≤y)(hlt:Ei a b x y<G4 a b x y):gI a (G4 a b x y-1)≠gI b (G4 a b x y-1):=by
 obtain⟨h1,h2,h3,h4⟩:=Qh a b y (y-x) x;have e1:Ei a b x y=Us a b y (y-x) x:=rfl;exact(U1 a b (Ei a b x y) (y-Ei a b x y) y (by omega)).2.2.2 (by
  have e2:G4 a b x y=Ut a b (Ei a b x y) (y-Ei a b x y) y:=rfl;omega)
def El (b:List Int):Nat→Nat
 |0=>0
 |n+1=>if gI b n=32 then El b n else n+1
theorem Qc (b:List Int):∀n,El b n≤n∧∀i,El b n≤i→i<n→gI b i=32
 |0=>⟨Ai _,fun i _ h=>absurd h (by omega)⟩
 |n+1=>by
  unfold El;split
  ·rename_i h
   obtain⟨h1,h2⟩:=Qc b n;refine⟨by omega,fun i hi hl=>?_⟩
   rcases At i n with hlt|hge
   ·exact h2 i hi hlt
   ·rw[show i=n by omega];exact h
  ·exact⟨Ai _,fun i h1 h2=>by omega⟩
def aM (b:List Int)(st at_ p:Nat):List Int:=(H7 b (Dc b (st,[]) p) at_).2
def fH (b:List Int)(st at_ p lo hi:Nat):List Int:=(H7 b (Dc b (Dd b (st,[]) lo hi) p) at_).2
def pU (b:List Int)(st at_ p lo hi:Nat):List Int:=(H7 b (Dd b (Dc b (st,[]) p) lo hi) at_).2
def L5 (b:List Int)(st at_ p lo hi:Nat):List (List Int):=if lo<hi then [fH b st at_ p lo hi,pU b st at_ p lo hi]else [aM b st at_ p]
def Hd (x w:List Int):List Int:=if w.length<x.length then w else x
def Fc (best:List Int)(ws:List (List Int)):List Int:=ws.foldl Hd best
def Ly (b:List Int)(st at_ lo hi:Nat):Nat→Nat→List Int→List Int
 |0,_,best=>best
 |f+1,p,best=>Ly b st at_ lo hi f (p+1) (Fc best (L5 b st at_ p lo hi))
def Ec (a:List Int)(st:Nat)(b:List Int)(at_:Nat):List Int:=
 let n:=b.length
 let x:=Ei a b 0 n
 let y:=G4 a b 0 n
 if x<y then
  let best:=(H7 b (Dd b (st,[]) x y) at_).2
  let full:=El b n
  let fi:=Ei a b full n
  if fi<G4 a b full n then Ly b st at_ (Ei a b 0 full) (G4 a b 0 full) (fi+1-full) full best else best
 else(H7 b (st,[]) at_).2
theorem jW (x w:List Int):Hd x w=x∨Hd x w=w:=by unfold Hd;split<;>simp
theorem jX (x w:List Int):(Hd x w).length≤x.length∧(Hd x w).length≤w.length:=by unfold Hd;split<;>omega
theorem Up {Q:List Int→Prop}:∀(ws:List (List Int)) (x:List Int),Q x→(∀w∈ws,Q w)→Q (Fc x ws)
 |[],x,h,_=>h
 |w::ws,x,h,h2=>Up ws (Hd x w) (by rcases jW x w with e|e<;>rw[e];exact h;exact h2 w (by simp)) (fun v hv=>h2 v (by simp[hv]))
theorem Rn:∀(ws:List (List Int)) (x:List Int),(Fc x ws).length≤x.length∧∀w∈ws,(Fc x ws).length≤w.length
 |[],x=>⟨Ai _,fun w h=>by cases h⟩
 |v::ws,x=>by
  obtain⟨h1,h2⟩:=Rn ws (Hd x v);have h3:=jX x v;have e:Fc x (v::ws)=Fc (Hd x v) ws:=rfl;rw[e];refine⟨by omega,fun w hw=>?_⟩
  rcases List.mem_cons.1 hw with rfl|hw
  ·omega
  ·exact h2 w hw
theorem Wr {Q:List Int→Prop}{b:List Int}{st at_ lo hi:Nat}:∀(f p:Nat) (x:List Int),Q x→(∀q,p≤q→q<p+f→∀w∈L5 b st at_ q lo hi,Q w)→Q (Ly b st at_ lo hi f p x)
 |0,p,x,h,_=>h
 |f+1,p,x,h,h2=>Wr f (p+1) _ (Up _ _ h (h2 p (Ai _) (by omega))) (fun q h3 h4=>h2 q (by omega) (by omega))
theorem Zj {b:List Int}{st at_ lo hi:Nat}:∀(f p:Nat) (x:List Int),(Ly b st at_ lo hi f p x).length≤x.length
 |0,p,x=>Ai _
 |f+1,p,x=>Ap (Zj f (p+1) _) (Rn _ _).1
theorem Sb {st at_ lo hi:Nat}(f p:Nat)(x:List Int){w:List Int}(hw:w∈L5 b st at_ p lo hi):(Ly b st at_ lo hi (f+1) p x).length≤w.length:=
 Ap (Zj f (p+1) _) ((Rn _ _).2 w hw)
def Gh (b:List Int)(r r':List Int×Nat)(x y:Nat):Prop:=r'.1.length=r.1.length∧∀i,i<b.length→(gI r.1 i=gI b i∨x≤i∧i<y)→gI r'.1 i=gI b i
theorem Gh.refl (b:List Int)(r:List Int×Nat):Gh b r r 0 0:=⟨rfl,fun i _ h=>by rcases h with h|h;exact h;omega⟩
theorem Gh.less {r r':List Int×Nat}{x y x' y':Nat}(h:Gh b r r' x y)(hh:∀i,x'≤i→i<y'→x≤i∧i<y):Gh b r r' x' y':=⟨h.1,fun i hi hl=>h.2 i hi (hl.imp id (fun k=>hh i k.1 k.2))⟩
def wQ (b:List Int):Prop:=∀k,k<b.length→Me (gI b k)
theorem nU {c:Int}(h:Me c):32≤c∧c≠127:=h
theorem gC {cs:List Int}{p:Nat}{c:Int}(h:Me c)(hp:p<cs.length):Rr (cs,p) c=(cs.set p c,p+1):=by
 obtain⟨h1,h2⟩:=nU h;unfold Rr;rw[if_neg (by omega),if_neg (by omega),if_neg (by omega),if_pos ⟨h1,h2,hp⟩]
theorem Lr {b:List Int}(hb:wQ b):∀(m x:Nat) (cs:List Int),cs.length=b.length→x+m≤b.length→
 (Ck (cs,x) ((b.drop x).take m)).2=x+m∧Gh b (cs,x) (Ck (cs,x) ((b.drop x).take m)) x (x+m)
 |0,x,cs,hc,hm=>by
  simp only[List.take_zero,Ck,List.foldl_nil];exact⟨rfl,(Gh.refl b _).less (fun i h1 h2=>by omega)⟩
 |m+1,x,cs,hc,hm=>by
  have hx:x<b.length:=by omega
  have e:(b.drop x).take (m+1)=gI b x::(b.drop (x+1)).take m:=by
   rw[List.drop_eq_getElem_cons hx,List.take_succ_cons];simp[gI,hx]
  have e2:Ck (cs,x) ((b.drop x).take (m+1))=Ck (cs.set x (gI b x),x+1) ((b.drop (x+1)).take m):=by
   rw[e]
   show Ck (Rr (cs,x) (gI b x)) _=_
   rw[gC (hb x hx) (by omega)]
  obtain⟨h1,h2⟩:=Lr hb m (x+1) (cs.set x (gI b x)) (by simpa using hc) (by omega)
  rw[e2];refine⟨by omega,h2.1.trans (by simp),fun i hi hl=>?_⟩
  apply h2.2 i hi
  simp only;rw[vU (by omega)]
  by_cases hix:i=x
  ·left;rw[if_pos hix,hix]
  ·rw[if_neg hix]
   rcases hl with hl|hl
   ·exact .inl hl
   ·exact .inr (by omega)
theorem Vl (cs:List Int):∀(m x:Nat),m≤x→Ck (cs,x) (Ar m 8)=(cs,x-m)
 |0,x,_=>rfl
 |m+1,x,h=>by
  rw[List.replicate_succ]
  show Ck (Rr (cs,x) 8) _=_
  have:Rr (cs,x) 8=(cs,x-1):=rfl;rw[this,Vl cs m (x-1) (by omega),show x-1-m=x-(m+1)by omega]
theorem Yy (hb:wQ b){cs:List Int}(hc:cs.length=b.length)(hx:x≤b.length)(hy:y≤b.length):
 (Ck (cs,x) (Ff b x y)).2=y∧Gh b (cs,x) (Ck (cs,x) (Ff b x y)) x y:=by
 unfold Ff;split
 ·rename_i h
  have:=Lr hb (y-x) x cs hc (by omega)
  rw[show x+(y-x)=y by omega]at this
  exact this
 ·rename_i h
  split
  ·rw[Vl cs _ _ (by omega)]
   exact⟨by simp only;omega,⟨rfl,fun i _ hl=>by rcases hl with hl|hl;exact hl;omega⟩⟩
  ·have e:Ck (cs,x) (13::b.take y)=Ck (cs,0) ((b.drop 0).take y):=rfl
   rw[e];have:=Lr hb y 0 cs hc (by omega)
   rw[Nat.zero_add]at this;refine⟨this.1,this.2.1,fun i hi hl=>this.2.2 i hi (hl.imp id (fun k=>by omega))⟩
def aK (b:List Int)(r:List Int×Nat)(j:Nat×List Int)(x y:Nat):Prop:=(Ck r j.2).2=j.1∧Gh b r (Ck r j.2) x y∧j.1≤b.length
theorem aK.start (b:List Int)(r:List Int×Nat)(h:r.2≤b.length):aK b r (r.2,[]) 0 0:=⟨rfl,Gh.refl b r,h⟩
theorem Mp (r:List Int×Nat){p:Nat}(h:r.2=p):r=(r.1,p):=by rw[←h]
theorem aK.to_ (hb:wQ b)(hr:r.1.length=b.length){x y k:Nat}(h:aK b r j x y)(hk:k≤b.length):aK b r (H7 b j k) x y∧(j.1≤k→∀i,j.1≤i→i<k→gI (Ck r (H7 b j k).2).1 i=gI b i):=by
 obtain⟨h1,h2,h3⟩:=h;have e:Ck r (H7 b j k).2=Ck ((Ck r j.2).1,j.1) (Ff b j.1 k):=by
  show Ck r (j.2++Ff b j.1 k)=_
  rw[Q7,←Mp _ h1]
 obtain⟨k1,k2⟩:=Yy hb (x:=j.1) (y:=k) (cs:=(Ck r j.2).1) (by rw[h2.1,hr]) h3 hk
 rw[←e]at k1 k2;refine⟨⟨k1,⟨k2.1.trans h2.1,fun i hi hl=>k2.2 i hi (.inl (h2.2 i hi hl))⟩,hk⟩,fun _ i h4 h5=>k2.2 i (by omega) (.inr ⟨h4,h5⟩)⟩
theorem aK.over (hb:wQ b)(hr:r.1.length=b.length){x y u v:Nat}(h:aK b r j x y)(huv:u≤v)(hv:v≤b.length):
 aK b r (Dd b j u v) x y∧aK b r (Dd b j u v) u v:=by
 obtain⟨⟨h1,h2,h3⟩,_⟩:=h.to_ hb hr (k:=u) (by omega)
 have e:Ck r (Dd b j u v).2=Ck ((Ck r (H7 b j u).2).1,u) ((b.drop u).take (v-u)):=by
  show Ck r ((H7 b j u).2++(b.drop u).take (v-u))=_
  rw[Q7];rw[←Mp _ (show(Ck r (H7 b j u).2).2=u from h1)]
 obtain⟨k1,k2⟩:=Lr hb (v-u) u (Ck r (H7 b j u).2).1 (by rw[h2.1,hr]) (by omega)
 rw[←e,show u+(v-u)=v by omega]at k1 k2
 exact⟨⟨k1,⟨k2.1.trans h2.1,fun i hi hl=>k2.2 i hi (.inl (h2.2 i hi hl))⟩,hv⟩,⟨k1,⟨k2.1.trans h2.1,fun i hi hl=>by
  rcases hl with hl|hl
  ·exact k2.2 i hi (.inl (h2.2 i hi (.inl hl)))
  ·exact k2.2 i hi (.inr hl)⟩,hv⟩⟩
theorem aK.erase (hb:wQ b)(hr:r.1.length=b.length){x y k:Nat}(h:aK b r j x y)(hk:k≤b.length)(hbl:∀i,k≤i→i<b.length→gI b i=32):
 aK b r (Dc b j k) x y∧aK b r (Dc b j k) k b.length:=by
 obtain⟨⟨h1,h2,h3⟩,_⟩:=h.to_ hb hr (k:=k) hk;have e:Ck r (Dc b j k).2=Rr (Ck r (H7 b j k).2) 11:=by
  show Ck r ((H7 b j k).2++[11])=_
  rw[Q7];rfl
 have h1:(Ck r (H7 b j k).2).2=k:=h1;have hl1:(Ck r (H7 b j k).2).1.length=b.length:=by rw[h2.1,hr]
 have e2:Rr (Ck r (H7 b j k).2) 11=((Ck r (H7 b j k).2).1.take k++Ar (b.length-k) 32,k):=by
  rw[Mp _ h1]
  show((Ck r (H7 b j k).2).1.take k++Ar ((Ck r (H7 b j k).2).1.length-k) 32,k)=_
  rw[hl1]
 have key:∀i,i<b.length→gI (Ck r (Dc b j k).2).1 i=if i<k then gI (Ck r (H7 b j k).2).1 i else 32:=fun i hi=>by
  rw[e,e2];unfold gI;simp only;split
  ·rename_i hik
   rw[List.getElem?_append_left (by rw[Cj];omega),List.getElem?_take,if_pos hik]
  ·rename_i hik
   rw[List.getElem?_append_right (by rw[Cj];omega),List.getElem?_replicate,if_pos (by rw[Cj];omega)]
   rfl
 have hlen:(Ck r (Dc b j k).2).1.length=r.1.length:=by
  rw[e,e2,hr];simp only[Bl,Cj,List.length_replicate];omega
 have h2':(Ck r (Dc b j k).2).2=k:=by rw[e,e2]
 refine⟨⟨h2',⟨hlen,fun i hi hl=>?_⟩,hk⟩,⟨h2',⟨hlen,fun i hi hl=>?_⟩,hk⟩⟩
 ·rw[key i hi]
  split
  ·exact h2.2 i hi hl
  ·rename_i hik;exact(hbl i (by omega) hi).symm
 ·rw[key i hi]
  split
  ·rename_i hik
   rcases hl with hl|hl
   ·exact h2.2 i hi (.inl hl)
   ·omega
  ·rename_i hik;exact(hbl i (by omega) hi).symm
theorem Zl {b c:List Int}(hc:c.length=b.length)(h:∀i,i<b.length→gI c i=gI b i):c=b:=by
 apply List.ext_getElem?
 intro i;rcases At i b.length with hi|hi
 ·have:=h i hi
  unfold gI at this;rw[By hi,By (by omega)]at this ⊢
  simpa using this
 ·rw[List.getElem?_eq_none hi,List.getElem?_eq_none (by omega)]
theorem qC (hx:x≤b.length)(hy:y≤b.length):(Ff b x y=[])↔x=y:=by
 unfold Ff
 constructor
 ·intro h
  split at h
  ·have:=congrArg List.length h
   simp at this;omega
  ·split at h
   ·have:=congrArg List.length h
    simp at this;omega
   ·cases h
 ·rintro rfl
  simp
def Jn (x y:Nat):Nat:=if x≤y then y-x else min (x-y) (1+y)
theorem Ks (hx:x≤b.length)(hy:y≤b.length):(Ff b x y).length=Jn x y:=by
 unfold Ff Jn;split
 ·simp;omega
 ·exact I96
theorem gD {a b:List Int}{st at_:Nat}(hl:a.length=b.length)(hb:wQ b)(hst:st≤b.length)(hat:at_≤b.length):
 Ck (a,st) (Ec a st b at_)=(b,at_)∧(Ec a st b at_).length≤2+El b b.length+Jn (El b b.length) at_∧(Ec a st b at_=[]↔a=b∧st=at_):=by
 obtain⟨d1,d2,d3,d4,d5⟩:=Ke a b (Aw b.length);obtain⟨f1,f2⟩:=Qc b b.length;have S0:=aK.start b (a,st) hst;have hr:((a,st):List Int×Nat).1.length=b.length:=hl;have fin:∀{j:Nat×List Int},aK b (a,st) j 0 0→(∀i,i<b.length→gI (Ck (a,st) j.2).1 i=gI b i)→Ck (a,st) (H7 b j at_).2=(b,at_):=fun {j} hj hall=>by
  obtain⟨h1,_⟩:=hj.to_ hb hr (k:=at_) hat;obtain⟨k1,k2⟩:=hj.to_ hb hr (k:=at_) hat;have e:Ck (a,st) (H7 b j at_).2=Ck ((Ck (a,st) j.2).1,j.1) (Ff b j.1 at_):=by
   show Ck (a,st) (j.2++Ff b j.1 at_)=_
   rw[Q7,←Mp _ hj.1]
  obtain⟨q1,q2⟩:=Yy hb (x:=j.1) (y:=at_) (cs:=(Ck (a,st) j.2).1) (by rw[hj.2.1.1,hr]) hj.2.2 hat
  rw[←e]at q1 q2;have:(Ck (a,st) (H7 b j at_).2).1=b:=Zl (by rw[q2.1];exact hj.2.1.1.trans hr) (fun i hi=>q2.2 i hi (.inl (hall i hi)))
  rw[Mp _ q1,this]
 unfold Ec;simp only;split
 ·rename_i hxy
  have hne:a≠b:=by
   rintro rfl;obtain⟨g1,g2,g3,g4⟩:=Qh a a a.length (a.length-0) 0;exact g4 (by
    have:Ei a a 0 a.length=Us a a a.length (a.length-0) 0:=rfl;omega) rfl
  have hlast:=jE a b (Aw b.length) hxy;generalize Ei a b 0 b.length=x at*;generalize G4 a b 0 b.length=y at*
  -- the plain way
  have O:=S0.over hb hr (u:=x) (v:=y) (by omega) d3
  have O2:aK b (a,st) (Dd b (st,[]) x y) 0 0:=O.1;have A1:Ck (a,st) (H7 b (Dd b (st,[]) x y) at_).2=(b,at_):=fin O2 (fun i hi=>by
   rcases At i x with h1|h1
   ·exact O.2.2.1.2 i hi (.inl (d4 i (Aw _) h1))
   ·rcases At i y with h2|h2
    ·exact O.2.2.1.2 i hi (.inr ⟨h1,h2⟩)
    ·exact O.2.2.1.2 i hi (.inl (d5 i h2 hi)))
  have L1:(H7 b (Dd b (st,[]) x y) at_).2.length=Jn st x+(y-x)+Jn y at_:=by
   show((([]++Ff b st x)++(b.drop x).take (y-x))++Ff b y at_).length=_
   rw[Bl,Bl,Bl,Ks hst (by omega),Ks d3 hat,Cj,Ct,List.length_nil]
   omega
  split
  ·rename_i htl
   obtain⟨t1,t2,t3,t4,t5⟩:=Ke a b f1;obtain⟨m1,m2,m3,m4,m5⟩:=Ke a b (Aw (El b b.length));have m0:¬Ei a b 0 (El b b.length)<G4 a b 0 (El b b.length)→∀i,i<El b b.length→gI a i=gI b i:=fun h i hi=>by
    rcases At i (Ei a b 0 (El b b.length))with h1|h1
    ·exact m4 i (Aw _) h1
    ·exact m5 i (by omega) hi
   generalize hfull:El b b.length=full at*;generalize Ei a b full b.length=fi at*;generalize G4 a b full b.length=fh at*;generalize Ei a b 0 full=lo at*;generalize G4 a b 0 full=hi at*;have hbl:∀p,full≤p→∀i,p≤i→i<b.length→gI b i=32:=fun p hp i h1 h2=>f2 i (by omega) h2
   have Q:∀p,full≤p→p<full+(fi+1-full)→∀w∈L5 b st at_ p lo hi,Ck (a,st) w=(b,at_)∧w≠[]:=fun p hp hp2 w hw=>by
    have hpn:p≤b.length:=by omega
    unfold L5 at hw;split at hw
    ·rename_i hlh
     simp only[List.mem_cons,List.not_mem_nil,or_false]at hw;rcases hw with rfl|rfl
     ·have P1:=S0.over hb hr (u:=lo) (v:=hi) (by omega) (by omega)
      have P2:=P1.2.erase hb hr (k:=p) hpn (hbl p hp);refine⟨fin (P1.1.erase hb hr (k:=p) hpn (hbl p hp)).1 (fun i hi'=>?_),fun e=>?_⟩
      ·have N0:=trivial;exact zE
      ·have:=congrArg List.length e
       unfold fH H7 Dc at this;simp at this
     ·have P1:=S0.erase hb hr (k:=p) hpn (hbl p hp)
      have P2:=P1.1.over hb hr (u:=lo) (v:=hi) (by omega) (by omega)
      have P3:=P1.2.over hb hr (u:=lo) (v:=hi) (by omega) (by omega)
      refine⟨fin P2.1 (fun i hi'=>?_),fun e=>?_⟩
      ·have N1:=trivial;exact zE
      ·have:=congrArg List.length e
       unfold pU H7 Dd H7 Dc at this;simp at this
    ·rename_i hlh
     simp only[List.mem_cons,List.not_mem_nil,or_false]at hw;subst hw;have P1:=S0.erase hb hr (k:=p) hpn (hbl p hp);refine⟨fin P1.1 (fun i hi'=>?_),fun e=>?_⟩
     ·rcases At i p with h1|h1
      ·rcases At i full with h4|h4
       ·exact P1.1.2.1.2 i hi' (.inl (m0 hlh i h4))
       ·exact P1.1.2.1.2 i hi' (.inl (t4 i h4 (by omega)))
      ·exact P1.2.2.1.2 i hi' (.inr ⟨h1,hi'⟩)
     ·have:=congrArg List.length e
      unfold aM H7 Dc at this;simp at this
   have BB:Ck (a,st) (Ly b st at_ lo hi (fi+1-full) full (H7 b (Dd b (st,[]) x y) at_).2)=(b,at_)∧Ly b st at_ lo hi (fi+1-full) full (H7 b (Dd b (st,[]) x y) at_).2≠[]:=
    Wr (Q:=fun w=>Ck (a,st) w=(b,at_)∧w≠[]) _ _ _ ⟨A1,fun e=>by
     have:=congrArg List.length e;rw[L1]at this;simp at this;omega⟩ Q
   refine⟨BB.1,?_,⟨fun h=>absurd h BB.2,fun h=>absurd h.1 hne⟩⟩
   obtain⟨f,hf⟩:∃f,fi+1-full=f+1:=⟨fi-full,by omega⟩
   rw[hf];have U0:(aM b st at_ full).length=Jn st full+1+Jn full at_:=by
    show((([]++Ff b st full)++[11])++Ff b full at_).length=_
    rw[Bl,Bl,Bl,Ks hst f1,Ks f1 hat];simp
   by_cases hlh:lo<hi
   ·have hmem:fH b st at_ full lo hi∈L5 b st at_ full lo hi:=by unfold L5;rw[if_pos hlh];simp
    refine Ap (Sb f full _ hmem) ?_
    have:(fH b st at_ full lo hi).length=Jn st lo+(hi-lo)+Jn hi full+1+Jn full at_:=by
     show((((([]++Ff b st lo)++(b.drop lo).take (hi-lo))++Ff b hi full)++[11])++Ff b full at_).length=_
     simp only[Bl,Cj,Ct,List.length_nil,List.length_cons];rw[Ks hst (by omega),Ks (by omega) (by omega),Ks (by omega) hat]
     omega
    rw[this];have q1:Jn st lo≤1+lo:=by unfold Jn;split<;>omega
    have q2:Jn hi full=full-hi:=by unfold Jn;rw[if_pos m3]
    omega
   ·have hmem:aM b st at_ full∈L5 b st at_ full lo hi:=by unfold L5;rw[if_neg hlh];simp
    refine Ap (Sb f full _ hmem) ?_
    rw[U0];have q1:Jn st full≤1+full:=by unfold Jn;split<;>omega
    omega
  ·rename_i htl
   refine⟨A1,?_,⟨fun h=>?_,fun h=>absurd h.1 hne⟩⟩
   ·rw[L1]
    obtain⟨t1,t2,t3,t4,t5⟩:=Ke a b f1;have hyf:y≤El b b.length:=by
     rcases At (El b b.length) y with h|h
     ·exact absurd (by
       rcases At (y-1) (Ei a b (El b b.length) b.length)with h5|h5
       ·exact t4 _ (by omega) h5
       ·exact t5 _ (by omega) (by omega)) hlast
     ·exact h
    have q1:Jn st x≤1+x:=by unfold Jn;split<;>omega
    have q2:Jn y at_≤(El b b.length-y)+Jn (El b b.length) at_:=by
     unfold Jn;split<;>split<;>omega
    omega
   ·have:=congrArg List.length h
    rw[L1]at this;simp at this;omega
 ·rename_i hxy
  have hab:∀i,i<b.length→gI a i=gI b i:=fun i hi=>by
   rcases At i (Ei a b 0 b.length)with h1|h1
   ·exact d4 i (Aw _) h1
   ·exact d5 i (by omega) hi
  have e:=Zl hl hab;refine⟨fin S0 (fun i hi=>hab i hi),?_,?_⟩
  ·show([]++Ff b st at_).length≤_
   rw[List.nil_append,Ks hst hat];unfold Jn;split<;>split<;>omega
  ·show []++Ff b st at_=[]↔_
   rw[List.nil_append,qC hst hat];exact⟨fun h=>⟨e,h⟩,fun h=>h.2⟩
end
