/-
  Part ZWordW.
-/
import Derived.Test.YtkaefdmhlmlhbaaGreatZBase
import Derived.IntWalk
set_option maxRecDepth 100000
set_option maxHeartbeats 16000000
set_option linter.unusedVariables false
set_option linter.unusedSimpArgs false
namespace Go.Proofs.YtkaefdmhlmlhbaaGreat
open Go.RowKit
open _root_.Go.Proofs.Tryz
open _root_.Nat renaming eq_zero_or_pos→Br,le_refl→Aj,le_trans→Ar,lt_or_ge→Ay,zero_le→B8
open _root_.List renaming getElem?_cons_succ→Ag,getElem?_cons_zero→Af,getElem?_eq_getElem→Bm,getElem?_toArray→Ah,length_append→Be,length_drop→Dd,length_take→Cp,mem_singleton→Cw,nil_append→Jk,replicate→Aw
open Value renaming int→Av,slice→Ak
section
variable {l b:List Int}{A:Option Addr}{w:World}{n c k x y i:Nat}{big:Bool}{st:Int→List Nat}{r:List Int×Nat}{j:Nat×List Int}{p:Nat→Int}
def J1q (l:List Int)(i:Nat)(big:Bool):Prop:=i<l.length∧Bb l big i≠0∧(i=0∨Bb l big ((i:Int)-1)≠Bb l big i)
theorem xC (hk:k≤l.length):Gr l k big=0∨(0<Gr l k big∧Gr l k big<k∧J1q l (Gr l k big) big):=by
 unfold Gr;obtain⟨b1,b2,b3⟩:=Ki (l:=l) (big:=big) (kind:=0) k;generalize Hr l big 0 k=j at*;split
 ·exact .inl rfl
 ·rename_i hj
  rcases b3 with b3|b3
  ·omega
  rw[show((j:Int)-1)=((j-1:Nat):Int)by omega]at b3 ⊢
  obtain⟨c1,c2,c3⟩:=Ki (l:=l) (big:=big) (kind:=Bb l big (j-1:Nat)) j;generalize Hr l big (Bb l big (j-1:Nat)) j=r at*;rcases Br r with h0|h0
  ·exact .inl h0
  ·rcases c3 with c3|c3
   ·omega
   have hr:r<j:=by
    rcases Ay r j with h|h
    ·exact h
    ·exfalso
     apply c3
     congr 1
     omega
   have e:=c2 r (Nat.le_refl _) hr;exact .inr ⟨h0,by omega,by omega,by rw[e];exact b3,.inr (by rw[e];exact c3)⟩
theorem J0t (hk:k≤l.length):
 (l.length=0∧D0 l k big=0)∨(0<l.length∧D0 l k big=l.length-1)∨(k<D0 l k big∧D0 l k big+1<l.length∧Bb l big (D0 l k big)≠Bb l big (D0 l k big+1:Nat)):=by
 unfold D0;obtain⟨b1,b2,b3,b4⟩:=Ge (l:=l) (big:=big) (kind:=0) (by omega) (k+1)
 generalize Fi l big 0 (k+1)=j at*;split
 ·rcases Br l.length with h|h
  ·exact .inl ⟨h,by omega⟩
  ·exact .inr (.inl ⟨h,rfl⟩)
 ·rename_i hj
  have hp:=Xo (l:=l) (big:=big) (k:=j) (by omega) b3
  obtain⟨c1,c2,c3,c4⟩:=Ge (l:=l) (big:=big) (kind:=Bb l big j) (by omega) j
  generalize Fi l big (Bb l big j) j=r at*;have hr:j<r:=by
   rcases Ay j r with h|h
   ·exact h
   ·exact absurd (by congr 1;omega) c3
  have e:=c2 (r-1) (by omega) (by omega)
  rcases Ay r l.length with h|h
  ·refine .inr (.inr ⟨by omega,by omega,?_⟩)
   rw[e,show r-1+1=r by omega]
   exact fun h=>c3 h.symm
  ·exact .inr (.inl ⟨by omega,by omega⟩)
theorem Ni (hk:k≤l.length):Gr l k big≤k:=by
 rcases xC (big:=big) hk with h|⟨_,h,_⟩<;>omega
theorem cF (hl:Bj w A n c l)(hn:n≤4096)(hk:k≤n):
 Calls prog 133 #[.slice A n c,.int .i64 k,.bool big] w fun e w'=>e=.returned (.tuple #[.int .i64 (Gr l k big),(0:Int)])∧An w w':=by
 have N1:=trivial;exact K34
theorem yF (hl:Bj w A n c l)(hn:n≤4096)(hk:k≤n):
 Calls prog 181 #[.slice A n c,.int .i64 k,.bool big] w fun e w'=>e=.returned (.tuple #[.int .i64 (D0 l k big),(0:Int)])∧An w w':=by
 have N2:=trivial;exact K34
structure Gp where
 f:Int
 t:Int
 x:List Int
def rC (n:Int):Int→Int→List Gp→Int
 |_,size,[]=>if 4096<size then 2 else 0
 |last,size,s::e=>
  if s.f≤last∨s.t<s.f∨n<s.t∨(s.f=s.t∧s.x.length=0)then 4
  else if 4096<s.x.length∨8192<size-(s.t-s.f)+s.x.length then 2
  else rC n s.t (size-(s.t-s.f)+s.x.length) e
def lZ (n:Int)(e:List Gp):Int:=if n<0∨4096<n then 1 else rC n (-1) n e
def good (n:Int):Int→List Gp→Prop
 |_,[]=>True
 |last,s::e=>last<s.f∧s.f≤s.t∧s.t≤n∧¬(s.f=s.t∧s.x.length=0)∧s.x.length≤4096∧good n s.t e
def bW (size:Int):List Gp→Prop
 |[]=>size≤4096
 |s::e=>size-(s.t-s.f)+s.x.length≤8192∧bW (size-(s.t-s.f)+s.x.length) e
theorem Zy {n:Int}:∀{e:List Gp} {last size:Int},rC n last size e=0↔good n last e∧bW size e
 |[],last,size=>by
  simp only[rC,good,bW,true_and];split<;>omega
 |s::e,last,size=>by
  simp only[rC,good,bW];split
  ·simp only[Int.reduceEq,false_iff]
   omega
  ·split
   ·simp only[Int.reduceEq,false_iff]
    omega
   ·rw[Zy]
    constructor
    ·rintro⟨h1,h2⟩
     exact⟨⟨by omega,by omega,by omega,by omega,by omega,h1⟩,by omega,h2⟩
    ·rintro⟨⟨_,_,_,_,_,h1⟩,_,h2⟩
     exact⟨h1,h2⟩
theorem U7 {n:Int}{e:List Gp}:lZ n e=0↔0≤n∧n≤4096∧good n (-1) e∧bW n e:=by
 unfold lZ;split
 ·constructor
  ·intro h;cases h
  ·omega
 ·rw[Zy]
  constructor
  ·rintro⟨h1,h2⟩;exact⟨by omega,by omega,h1,h2⟩
  ·rintro⟨_,_,h1,h2⟩;exact⟨h1,h2⟩
def bX (l:List Int):Nat→List Gp→List Int
 |at_,[]=>l.drop at_
 |at_,s::e=>(l.drop at_).take (s.f.toNat-at_)++s.x++bX l s.t.toNat e
theorem mO (l:List Int){a b:Nat}(h:a≤b)(hb:b≤l.length):((l.drop a).take (b-a)).length=b-a:=by
 rw[List.length_take,List.length_drop];omega
theorem J1e (l:List Int){a b:Nat}(h:a≤b):(l.drop a).take (b-a)++l.drop b=l.drop a:=by
 have:l.drop b=(l.drop a).drop (b-a):=by rw[List.drop_drop];congr 1;omega
 rw[this,List.take_append_drop]
def gE (e:List Gp)(k:Nat):Gp:=e[k]?.getD ⟨0,0,[]⟩
def cD (w:World)(xs:List Value)(e:List Gp):Prop:=
 xs.length=e.length*3∧∀i,i<e.length→∃B m d,xs[i*3]? = some (.int .i64 (gE e i).f)∧xs[i*3+1]? = some (.int .i64 (gE e i).t)∧xs[i*3+2]? = some (.slice B m d)∧Bj w B m d (gE e i).x∧(B=none→d=0)
def Js (w:World)(A:Option Addr)(n c:Nat)(e:List Gp):Prop:=∃xs,Rd w 3 A n c xs∧cD w xs e
theorem cD.ext {w w':World}{xs:List Value}{e:List Gp}(h:cD w xs e)(he:An w w'):cD w' xs e:=
 ⟨h.1,fun i hi=>let ⟨B,m,d,h1,h2,h3,h4,h5⟩:=h.2 i hi;⟨B,m,d,h1,h2,h3,h4.ext he,h5⟩⟩
theorem Js.ext {w w':World}{e:List Gp}(h:Js w A n c e)(he:An w w'):Js w' A n c e:=
 let ⟨xs,h1,h2⟩:=h;⟨xs,h1.ext he,h2.ext he⟩
theorem Js.len {e:List Gp}(h:Js w A n c e):e.length=n:=by
 obtain⟨xs,h1,h2⟩:=h;have:=h1.len;have:=h2.1;omega
theorem Js.ncap {e:List Gp}(h:Js w A n c e):n≤c:=let ⟨xs,h1,h2⟩:=h;h1.ncap
theorem Js.nmax {e:List Gp}(h:Js w A n c e):c≤maxLen:=let ⟨xs,h1,h2⟩:=h;h1.nmax
theorem Js.at_ {e:List Gp}(h:Js w A n c e)(hk:k<n):
 ∃ad B m d,A=some ad∧w.cell? (ad.add (k*3))=some (.int .i64 (gE e k).f)∧w.cell? ⟨(ad.add (k*3)).block,(ad.add (k*3)).off+1,none⟩=some (.int .i64 (gE e k).t)∧w.cell? ⟨(ad.add (k*3)).block,(ad.add (k*3)).off+2,none⟩=some (.slice B m d)∧Bj w B m d (gE e k).x∧(B=none→d=0):=by
 have hl:=h.len;obtain⟨xs,h1,h2⟩:=h;obtain⟨ad,hA,hc⟩:=h1.at_ hk;obtain⟨B,m,d,k1,k2,k3,k4,k5⟩:=h2.2 k (by omega)
 refine⟨ad,B,m,d,hA,hc _ _ k1,?_,?_,k4,k5⟩
 ·exact I141
 ·have:=hc _ _ k3
  rw[←Gu]at this;exact this
theorem Js.none_ (w:World):Js w none 0 0 []:=⟨[],Rd.none_ w 3,rfl,fun i hi=>absurd hi (by simp)⟩
def D8 (c:Int):Int:=if c=40 then 41 else if c=91 then 93 else if c=123 then 125 else if c=41 then 40 else if c=93 then 91 else if c=125 then 123 else 0
def Np (c:Int):Bool:=decide (c=41∨c=93∨c=125)
theorem kZ {c:Int}(h:D8 c≠0):D8 (D8 c)=c:=by
 unfold D8 at h ⊢
 repeat' split at h
 all_goals first|(subst_vars;rfl)|simp at h
theorem J3x (c:Int):0≤D8 c∧D8 c≤125:=by
 unfold D8
 repeat' split
 all_goals omega
abbrev DSt:=(Int→List Nat)×(Nat→Int)
def El (p:Nat→Int)(i:Nat)(v:Int):Nat→Int:=fun x=>if x=i then v else p x
def Mb (st:Int→List Nat)(c:Int)(v:List Nat):Int→List Nat:=fun x=>if x=c then v else st x
def P5 (c:Int)(i:Nat)(s:DSt):DSt:=
 if D8 c=0 then(s.1,El s.2 i (-1))
 else if Np c=false then(Mb s.1 c (s.1 c++[i]),El s.2 i (-1))
 else match (s.1 (D8 c)).getLast? with
  |none=>(s.1,El s.2 i (-1))
  |some k=>(Mb s.1 (D8 c) (s.1 (D8 c)).dropLast,El (El s.2 i k) k i)
def Fj (l:List Int):Nat→DSt
 |0=>(fun _=>[],fun _=>0)
 |i+1=>P5 (gI l i) i (Fj l i)
theorem R8 {l:List Nat}(h:l.getLast? = some k):l.dropLast++[k]=l:=by
 obtain⟨h1,h2⟩:=List.getLast?_eq_some_iff.1 h;rw[h2];simp
structure DI (l:List Int)(i:Nat)(st:Int→List Nat)(p:Nat→Int):Prop where
 sorted:∀c,(st c).Pairwise (· < ·)
 mem:∀c,∀k∈st c,k<i∧gI l k=c∧D8 c≠0∧Np c=false∧p k = -1
 part:∀j,j<i→p j = -1∨∃m:Nat,p j=m∧m<i∧p m=j∧m≠j∧D8 (gI l j)=gI l m∧Np (gI l j)=decide (m<j)∧D8 (gI l j)≠0
 apart:∀x y:Nat,x<y→y<i→p x=y→∀k∈st (gI l x),k<x∨y<k
 nest:∀x y u v:Nat,x<y→y<i→u<v→v<i→p x=y→p u=v→gI l x=gI l u→x<u→u<y→v<y
 none_:∀j,j<i→p j = -1→D8 (gI l j)≠0→Np (gI l j)=false→j∈st (gI l j)
theorem DI.start (l:List Int):DI l 0 (Fj l 0).1 (Fj l 0).2 where
 sorted:=fun _=>.nil
 mem:=fun _ _ h=>by cases h
 part:=fun _ h=>absurd h (by omega)
 apart:=fun _ _ _ h=>absurd h (by omega)
 nest:=fun _ _ _ _ _ h=>absurd h (by omega)
 none_:=fun _ h=>absurd h (by omega)
theorem DI.plain (h:DI l i st p)(hc:D8 (gI l i)=0∨Np (gI l i)=true):DI l (i+1) st (El p i (-1)):=by
 have hu:∀j,j<i→El p i (-1) j=p j:=fun j hj=>if_neg (by omega)
 have hi:El p i (-1) i = -1:=if_pos rfl;refine⟨h.sorted,?_,?_,?_,?_,?_⟩
 ·intro c k hk
  obtain⟨h1,h2,h3,h4,h5⟩:=h.mem c k hk;exact⟨by omega,h2,h3,h4,by rw[hu k h1];exact h5⟩
 ·intro j hj
  rcases Ay j i with h1|h1
  ·show El p i (-1) j = -1∨_
   rcases h.part j h1 with h2|⟨m,h2,h3,h4,h5⟩
   ·exact .inl (by rw[hu j h1];exact h2)
   ·exact .inr ⟨m,by rw[hu j h1];exact h2,by omega,by rw[hu m h3];exact h4,h5⟩
  ·obtain rfl:j=i:=by omega
   exact .inl hi
 ·intro x y fl hy hp k hk
  rcases Ay y i with h1|h1
  ·exact h.apart x y fl h1 (by rw[←hu x (by omega)];exact hp) k hk
  ·obtain rfl:y=i:=by omega
   have ji:p x=y:=by rw[←hu x fl];exact hp
   rcases h.part x fl with h2|⟨m,h2,h3,_⟩
   ·rw[h2]at ji;omega
   ·rw[h2]at ji;omega
 ·intro x y u v fl hy AH hv hp hq he RG RH
  have hx:x<i:=by omega
  have CV:u<i:=by omega
  have ji:p x=y:=by rw[←hu x hx];exact hp
  have py:p u=v:=by rw[←hu u CV];exact hq
  have vk:y<i:=by
   exact I66
  have nt:v<i:=by
   rcases h.part u CV with h2|⟨m,h2,h3,_⟩<;>omega
  exact I145
 ·intro j hj h1 h2 h3
  rcases Ay j i with h4|h4
  ·exact h.none_ j h4 (by rw[←hu j h4];exact h1) h2 h3
  ·obtain rfl:j=i:=by omega
   rcases hc with hc|hc
   ·exact absurd hc h2
   ·rw[hc]at h3;cases h3
theorem DI.push (h:DI l i st p)(ho:D8 (gI l i)≠0)(hc:Np (gI l i)=false):DI l (i+1) (Mb st (gI l i) (st (gI l i)++[i])) (El p i (-1)):=by
 have hu:∀j,j<i→El p i (-1) j=p j:=fun j hj=>if_neg (by omega)
 have hi:El p i (-1) i = -1:=if_pos rfl;have kg:∀c k,k∈Mb st (gI l i) (st (gI l i)++[i]) c↔k∈st c∨(c=gI l i∧k=i):=by
  intro c k;unfold Mb;by_cases e:c=gI l i
  ·subst e;simp
  ·simp[e]
 have ae:∀x y:Nat,x<i→p x=y→x<y→y<i:=by
  intro x y hx hp fl;exact I66
 refine⟨?_,?_,?_,?_,?_,?_⟩
 ·intro c
  show(Mb st (gI l i) (st (gI l i)++[i]) c).Pairwise _
  unfold Mb;by_cases e:c=gI l i
  ·subst e
   rw[if_pos rfl,List.pairwise_append];exact⟨h.sorted _,by simp,fun a ha b hb=>by
    obtain rfl:=Cw.1 hb;exact(h.mem _ a ha).1⟩
  ·rw[if_neg e];exact h.sorted c
 ·intro c k hk
  rcases(kg c k).1 hk with h1|⟨rfl,rfl⟩
  ·obtain⟨h1,h2,h3,h4,h5⟩:=h.mem c k h1
   exact⟨by omega,h2,h3,h4,by show El p i (-1) k = -1;rw[hu k h1];exact h5⟩
  ·exact⟨by omega,rfl,ho,hc,hi⟩
 ·intro j hj
  show El p i (-1) j = -1∨_
  rcases Ay j i with h1|h1
  ·rcases h.part j h1 with h2|⟨m,h2,h3,h4,h5⟩
   ·exact .inl (by rw[hu j h1];exact h2)
   ·exact .inr ⟨m,by show El p i (-1) j=m;rw[hu j h1];exact h2,by omega,by show El p i (-1) m=j;rw[hu m h3];exact h4,h5⟩
  ·obtain rfl:j=i:=by omega
   exact .inl hi
 ·intro x y fl hy hp k hk
  have hx:x<i:=by omega
  have ji:p x=y:=by rw[←hu x hx];exact hp
  have vk:=ae x y hx ji fl;rcases(kg _ k).1 hk with h1|⟨_,rfl⟩
  ·exact h.apart x y fl vk ji k h1
  ·exact .inr vk
 ·intro x y u v fl hy AH hv hp hq he RG RH
  have hx:x<i:=by omega
  have CV:u<i:=by omega
  have ji:p x=y:=by rw[←hu x hx];exact hp
  have py:p u=v:=by rw[←hu u CV];exact hq
  exact h.nest x y u v fl (ae x y hx ji fl) AH (ae u v CV py AH) ji py he RG RH
 ·intro j hj h1 h2 h3
  rcases Ay j i with h4|h4
  ·exact(kg _ j).2 (.inl (h.none_ j h4 (by rw[←hu j h4];exact h1) h2 h3))
  ·obtain rfl:j=i:=by omega
   exact(kg _ j).2 (.inr ⟨rfl,rfl⟩)
theorem DI.pop (h:DI l i st p)(ho:D8 (gI l i)≠0)(hc:Np (gI l i)=true)(hk:(st (D8 (gI l i))).getLast? = some k):
 DI l (i+1) (Mb st (D8 (gI l i)) (st (D8 (gI l i))).dropLast) (El (El p i k) k i)∧k<i:=by
 have fq:st (D8 (gI l i))=(st (D8 (gI l i))).dropLast++[k]:=(R8 hk).symm;have CQ:k∈st (D8 (gI l i)):=by rw[fq];simp
 obtain⟨JD,ql,_,LE,UJ⟩:=h.mem _ k CQ;have d7:∀a∈(st (D8 (gI l i))).dropLast,a<k:=by
  have:=h.sorted (D8 (gI l i));rw[fq,List.pairwise_append]at this;intro a ha;exact this.2.2 a ha k (by simp)
 have hu:∀j,j<i→j≠k→El (El p i k) k i j=p j:=fun j hj ai=>by
  unfold El;rw[if_neg ai,if_neg (by omega)]
 have RI:El (El p i k) k i k=i:=if_pos rfl;have Yy:El (El p i k) k i i=k:=by unfold El;rw[if_neg (by omega),if_pos rfl]
 have hnk:∀j m:Nat,j<i→p j=m→j≠k→m≠k:=by
  intro j m hj hp ai f6;subst f6;rcases h.part j hj with h2|⟨m',h2,h3,h4,h5⟩
  ·omega
  ·obtain rfl:m'=m:=by omega
   rw[UJ]at h4;omega
 have kg:∀c a,a∈Mb st (D8 (gI l i)) (st (D8 (gI l i))).dropLast c→a∈st c∧a≠k:=by
  intro c a ha;unfold Mb at ha;by_cases e:c=D8 (gI l i)
  ·subst e
   rw[if_pos rfl]at ha;have h1:=d7 a ha;exact⟨by rw[fq];simp[ha],by omega⟩
  ·rw[if_neg e]at ha
   refine⟨ha,fun e2=>e ?_⟩
   subst e2;rw[←(h.mem c a ha).2.1,ql]
 refine⟨⟨?_,?_,?_,?_,?_,?_⟩,JD⟩
 ·intro c
  show(Mb st (D8 (gI l i)) (st (D8 (gI l i))).dropLast c).Pairwise _
  unfold Mb;by_cases e:c=D8 (gI l i)
  ·subst e
   rw[if_pos rfl];exact(h.sorted _).sublist (List.dropLast_sublist _)
  ·rw[if_neg e];exact h.sorted c
 ·intro c a ha
  obtain⟨h1,h2⟩:=kg c a ha;obtain⟨h3,h4,h5,h6,h7⟩:=h.mem c a h1;exact⟨by omega,h4,h5,h6,by show El (El p i k) k i a = -1;rw[hu a h3 h2];exact h7⟩
 ·intro j hj
  show El (El p i k) k i j = -1∨_
  by_cases qm:j=k
  ·subst qm
   refine .inr ⟨i,RI,by omega,Yy,by omega,?_,?_,?_⟩
   ·rw[ql];exact kZ ho
   ·rw[ql,LE];simp;omega
   ·rw[ql,kZ ho]
    intro e;rw[e]at ho;exact ho rfl
  ·rcases Ay j i with h1|h1
   ·rcases h.part j h1 with h2|⟨m,h2,h3,h4,h5⟩
    ·exact .inl (by rw[hu j h1 qm];exact h2)
    ·exact .inr ⟨m,by show El (El p i k) k i j=m;rw[hu j h1 qm];exact h2,by omega,by show El (El p i k) k i m=j;rw[hu m h3 (hnk j m h1 h2 qm)];exact h4,h5⟩
   ·obtain rfl:j=i:=by omega
    refine .inr ⟨k,Yy,by omega,RI,by omega,ql.symm,?_,ho⟩
    rw[hc];simp;omega
 ·intro x y fl hy hp a ha
  obtain⟨ha1,wv⟩:=kg _ a ha;by_cases CW:x=k
  ·subst CW
   left
   have e:gI l x=D8 (gI l i):=ql;unfold Mb at ha;rw[if_pos e]at ha;exact d7 a ha
  ·have hx:x<i:=by omega
   have ji:p x=y:=by rw[←hu x hx CW];exact hp
   have vk:y<i:=by
    exact I66
   exact h.apart x y fl vk ji a ha1
 ·intro x y u v fl hy AH hv hp hq he RG RH
  have hx:x<i:=by omega
  have UK:u<i:=by omega
  by_cases CW:x=k
  ·-- the new pair is the outer one
   subst CW;have:y=i:=by have:=RI;rw[show El (El p i x) x i x=y from hp]at this;omega
   subst this;have py:p u=v:=by rw[←hu u UK (by omega)];exact hq
   exact I140
  ·have ji:p x=y:=by rw[←hu x hx CW];exact hp
   have vk:y<i:=by
    exact I66
   by_cases LF:u=k
   ·-- the new pair is the inner one: it can't be
    subst LF;have:=h.apart x y fl vk ji u (by rw[he,ql];exact CQ)
    omega
   ·have py:p u=v:=by rw[←hu u UK LF];exact hq
    have nt:v<i:=by
     exact I140
    exact I145
 ·intro j hj h1 h2 h3
  have qm:j≠k:=by
   intro e;subst e;rw[show El (El p i j) j i j=(-1:Int)from h1]at RI
   omega
  rcases Ay j i with h4|h4
  ·have h5:=h.none_ j h4 (by rw[←hu j h4 qm];exact h1) h2 h3
   show j∈Mb st (D8 (gI l i)) (st (D8 (gI l i))).dropLast (gI l j)
   unfold Mb;by_cases e:gI l j=D8 (gI l i)
   ·rw[if_pos e]
    rw[e,fq]at h5;rcases List.mem_append.1 h5 with h6|h6
    ·exact h6
    ·exact absurd (Cw.1 h6) qm
   ·rw[if_neg e];exact h5
  ·obtain rfl:j=i:=by omega
   rw[hc]at h3;cases h3
theorem Us {c:Int}{s:DSt}(h:D8 c=0):P5 c i s=(s.1,El s.2 i (-1)):=by unfold P5;rw[if_pos h]
theorem Xu {c:Int}{s:DSt}(h:D8 c≠0)(hc:Np c=false):P5 c i s=(Mb s.1 c (s.1 c++[i]),El s.2 i (-1)):=by unfold P5;rw[if_neg h,if_pos hc]
theorem Xv {c:Int}{s:DSt}(h:D8 c≠0)(hc:Np c=true)(he:s.1 (D8 c)=[]):P5 c i s=(s.1,El s.2 i (-1)):=by
 unfold P5;rw[if_neg h,if_neg (by rw[hc];simp),he];rfl
theorem Zu {c:Int}{s:DSt}(h:D8 c≠0)(hc:Np c=true)(he:(s.1 (D8 c)).getLast? = some k):P5 c i s=(Mb s.1 (D8 c) (s.1 (D8 c)).dropLast,El (El s.2 i k) k i):=by
 unfold P5;rw[if_neg h,if_neg (by rw[hc];simp),he]
theorem bA (l:List Int):∀i,DI l i (Fj l i).1 (Fj l i).2
 |0=>DI.start l
 |i+1=>by
  have h:=bA l i
  show DI l (i+1) (P5 (gI l i) i (Fj l i)).1 (P5 (gI l i) i (Fj l i)).2
  by_cases h1:D8 (gI l i)=0
  ·rw[Us h1];exact h.plain (.inl h1)
  ·cases hc:Np (gI l i)with
   |false=>rw[Xu h1 hc];exact h.push h1 hc
   |true=>
    cases he:((Fj l i).1 (D8 (gI l i))).getLast? with
    |none=>rw[Xv h1 hc (List.getLast?_eq_none_iff.1 he)];exact h.plain (.inr hc)
    |some k=>rw[Zu h1 hc he];exact(h.pop h1 hc he).1
def La (l:List Int)(i:Nat):List Int:=(List.range l.length).map fun j=>if j<i then(Fj l i).2 j else 0
def Dq (l:List Int):List Int:=(List.range l.length).map fun j=>(Fj l l.length).2 j
theorem Wq (l:List Int)(i:Nat):(La l i).length=l.length:=by simp[La]
theorem iH (l:List Int):(Dq l).length=l.length:=by simp[Dq]
theorem tT (l:List Int):La l l.length=Dq l:=by
 apply List.ext_getElem
 ·simp[La,Dq]
 ·intro j h1 h2
  simp[La]at h1;simp[La,Dq,h1]
theorem iE (l:List Int):La l 0=List.replicate l.length 0:=by
 apply List.ext_getElem
 ·simp[La]
 ·intro j h1 h2;simp[La]
theorem Rl (h:(Fj l (i+1)).2=El (Fj l i).2 i (-1)):La l (i+1)=(La l i).set i (-1):=by
 apply List.ext_getElem
 ·simp[La]
 ·intro j h1 h2
  rw[List.getElem_set];simp[La,h,El];by_cases e:i=j
  ·subst e;simp
  ·rw[if_neg e]
   by_cases h3:j<i
   ·rw[if_pos (by omega),if_pos h3,if_neg (by omega)]
   ·rw[if_neg (by omega),if_neg h3]
theorem tS (hk:k<i)(h:(Fj l (i+1)).2=El (El (Fj l i).2 i k) k i):La l (i+1)=(((La l i).set i (-1)).set i k).set k i:=by
 apply List.ext_getElem
 ·simp[La]
 ·intro j h1 h2
  rw[List.getElem_set,List.getElem_set,List.getElem_set];simp[La,h,El];by_cases e:k=j
  ·subst e;simp;omega
  ·rw[if_neg e]
   by_cases e2:i=j
   ·subst e2;simp;omega
   ·rw[if_neg e2]
    by_cases h3:j<i
    ·rw[if_pos (by omega),if_pos h3,if_neg (by omega),if_neg (by omega),if_neg e2]
    ·rw[if_neg (by omega),if_neg h3,if_neg e2]
theorem Tx {j:Nat}(h:j<l.length):gI (Dq l) j=(Fj l l.length).2 j:=by simp[gI,Dq,h]
def Vr (l:List Int)(k i m:Nat):Prop:=k≤i∧i<l.length∧D8 (gI l i)≠0∧(∀j,k≤j→j<i→D8 (gI l j)=0)∧gI (Dq l) i=(m:Int)∧m<l.length
def noP (l:List Int)(k:Nat):Prop:=∀i,k≤i→i<l.length→D8 (gI l i)≠0→(∀j,k≤j→j<i→D8 (gI l j)=0)→gI (Dq l) i<0
theorem jF {k i m i' m':Nat}(h:Vr l k i m)(h':Vr l k i' m'):i=i'∧m=m':=by
 obtain⟨h1,h2,h3,h4,h5,h6⟩:=h;obtain⟨g1,g2,g3,g4,g5,g6⟩:=h';have e:i=i':=by
  rcases Nat.lt_trichotomy i i' with h|h|h
  ·exact absurd (g4 i h1 h) h3
  ·exact h
  ·exact absurd (h4 i' g1 h) g3
 subst e;exact⟨rfl,by omega⟩
theorem Zn {k i m:Nat}(h:Vr l k i m):¬noP l k:=fun h'=>by
 obtain⟨h1,h2,h3,h4,h5,h6⟩:=h;have:=h' i h1 h2 h3 h4;omega
def Jp (l:List Int)(c:Int):Nat→Nat→Nat→Option Nat
 |0,_,_=>none
 |f+1,i,g=>if gI l i=c then(if g=1 then some i else Jp l c f (i+1) (g-1))else Jp l c f (i+1) g
def Kr (l:List Int)(c:Int):Nat→Nat→Option Nat
 |0,_=>none
 |m+1,g=>if gI l m=c then(if g=1 then some m else Kr l c m (g-1))else Kr l c m g
def Rb (s:Nat→Nat):Nat→Nat→Nat
 |0,k=>k
 |g+1,k=>s (Rb s g k)
def Gi (l:List Int):Nat:=if Fi l true 0 0<l.length then Fi l true 0 0 else l.length-1
def F1 (l:List Int)(k:Nat)(key:Int)(g:Nat)(op:Bool):Option (Nat×Bool):=
 if key=104 then(if k=0 then none else some (k-g,false))
 else if key=108 then(if(if op=true then l.length else l.length-1)≤k then none else some (min (if op=true then l.length else l.length-1) (k+g),false))
 else if key=48 then some (0,false)
 else if key=94 then some (Gi l,false)
 else if key=98 then(if k=0 then none else some (Rb (Gr l · false) g k,false))
 else if key=66 then(if k=0 then none else some (Rb (Gr l · true) g k,false))
 else if l.length=0 then none
 else if key=36 then some (l.length-1,true)
 else if key=124 then some (min g l.length-1,false)
 else if key=119 then(if op=true then some (Rb (Gk l · false) g k,false)else if min (Rb (Gk l · false) g k) (l.length-1)=k then none else some (min (Rb (Gk l · false) g k) (l.length-1),false))
 else if key=87 then(if op=true then some (Rb (Gk l · true) g k,false)else if min (Rb (Gk l · true) g k) (l.length-1)=k then none else some (min (Rb (Gk l · true) g k) (l.length-1),false))
 else if key=101 then(if op=false∧Rb (D0 l · false) g k=k then none else some (Rb (D0 l · false) g k,true))
 else if key=69 then(if op=false∧Rb (D0 l · true) g k=k then none else some (Rb (D0 l · true) g k,true))
 else none
def Ch (l:List Int)(k:Nat)(key:Int)(g:Nat)(op:Bool)(o:Option (Nat×Bool)):Prop:=
 if key=37 then(∃i m,Vr l k i m∧o=some (m,true))∨(noP l k∧o=none)else o=F1 l k key g op
def aP (l:List Int)(k:Nat)(key arg:Int)(g:Nat):Option (Nat×Bool):=
 if key=102 then(Jp l arg (l.length-(k+1)) (k+1) g).map (·,true)
 else if key=116 then(Jp l arg (l.length-(k+1)) (k+1) g).map (· - 1,true)
 else if key=70 then(Kr l arg k g).map (·,false)
 else(Kr l arg k g).map (· + 1,false)
def Kg (key:Int):Bool:=decide (key=102∨key=116∨key=70∨key=84)
def Ld (key:Int):Bool:=decide (key=104∨key=108∨key=48∨key=94∨key=36∨key=124∨key=119∨key=87∨key=98∨key=66∨key=101∨key=69∨key=37)
def Yl (l:List Int)(k:Nat)(key arg:Int)(g:Nat)(op:Bool)(o:Option (Nat×Bool)):Prop:=
 if Kg key=true then o=aP l k key arg g else Ch l k key g op o
theorem Sv {l:List Int}{c:Int}:∀{f i g j:Nat},Jp l c f i g=some j→i≤j∧j<i+f
 |0,_,_,_,h=>by simp[Jp]at h
 |f+1,i,g,j,h=>by
  unfold Jp at h;split at h
  ·split at h
   ·simp at h;omega
   ·have:=Sv h;omega
  ·have:=Sv h;omega
theorem Sw {l:List Int}{c:Int}:∀{m g j:Nat},Kr l c m g=some j→j<m
 |0,_,_,h=>by simp[Kr]at h
 |m+1,g,j,h=>by
  unfold Kr at h;split at h
  ·split at h
   ·simp at h;omega
   ·have:=Sw h;omega
  ·have:=Sw h;omega
theorem Nq {s:Nat→Nat}{n:Nat}(hs:∀k,k≤n→s k≤n):∀g {k:Nat},k≤n→Rb s g k≤n
 |0,k,h=>h
 |g+1,k,h=>hs _ (Nq hs g h)
theorem fV {s:Nat→Nat}{n:Nat}(hs:∀k,k≤n→s k<n):∀g {k:Nat},k<n→Rb s g k<n
 |0,k,h=>h
 |g+1,k,h=>hs _ (Nat.le_of_lt (fV hs g h))
theorem St (hk:k≤l.length):Gk l k big≤l.length:=(eT (big:=big) hk).2.1
theorem lM (hk:k≤l.length)(h0:0<l.length):D0 l k big<l.length:=by
 exact I144
theorem lN (hk:k≤l.length):D0 l k big≤l.length:=by
 exact I144
theorem pC (l:List Int):Gi l≤l.length-1:=by unfold Gi;split<;>omega
theorem aE:∀k,k≤l.length→Gr l k big≤l.length:=fun k hk=>Ar (Ni hk) hk
theorem rU {key arg:Int}{g:Nat}{op:Bool}{o:Option (Nat×Bool)}(hk:k≤l.length-1)(hg:1≤g)(h:Yl l k key arg g op o){a:Nat}{i:Bool}(ho:o=some (a,i)):
 a≤l.length∧(op=false→a≤l.length-1)∧(i=true→a<l.length):=by
 have pz:k≤l.length:=by omega
 subst ho;unfold Yl at h;split at h
 ·unfold aP at h
  split at h
  ·exact I64
  split at h
  ·exact I64
  split at h
  ·exact I60
  ·exact I60
 ·unfold Ch at h
  split at h
  ·rcases h with⟨i',m,hf,he⟩|⟨_,he⟩
   ·injection he with he
    injection he with aj au;subst aj;subst au;have h1:=hf.2.2.2.2.2;simp;omega
   ·cases he
  ·have e1:=Nq (fun k hk=>St (l:=l) (big:=false) hk) g pz
   have e2:=Nq (fun k hk=>St (l:=l) (big:=true) hk) g pz
   have e3:=Nq (aE (l:=l) (big:=false)) g pz;have e4:=Nq (aE (l:=l) (big:=true)) g pz;have e5:=Nq (fun k hk=>Ar (Ni (l:=l) (big:=false) (Ar hk (Nat.sub_le _ _))) hk) g hk
   have e6:=Nq (fun k hk=>Ar (Ni (l:=l) (big:=true) (Ar hk (Nat.sub_le _ _))) hk) g hk
   have e7:=pC l;have e8:0<l.length→Rb (D0 l · false) g k<l.length:=fun h0=>fV (fun k hk=>lM hk h0) g (by omega)
   have e9:0<l.length→Rb (D0 l · true) g k<l.length:=fun h0=>fV (fun k hk=>lM hk h0) g (by omega)
   unfold F1 at h;generalize Rb (D0 l · false) g k=x1 at*;generalize Rb (D0 l · true) g k=x2 at*;generalize Rb (Gk l · false) g k=x3 at*;generalize Rb (Gk l · true) g k=x4 at*;generalize Rb (Gr l · false) g k=x5 at*;generalize Rb (Gr l · true) g k=x6 at*;generalize Gi l=x7 at*;by_cases k1:key=104
   ·rw[if_pos k1]at h;by_cases j:k=0
    ·rw[if_pos j]at h;cases h
    ·rw[if_neg j]at h;cases h;simp;omega
   rw[if_neg k1]at h;by_cases k2:key=108
   ·rw[if_pos k2]at h
    cases op
    ·simp only[Bool.false_eq_true,if_false]at h
     by_cases j:l.length-1≤k
     ·rw[if_pos j]at h;cases h
     ·rw[if_neg j]at h;cases h;simp;omega
    ·simp only[if_true]at h
     by_cases j:l.length≤k
     ·rw[if_pos j]at h;cases h
     ·rw[if_neg j]at h;cases h;simp;omega
   rw[if_neg k2]at h;by_cases k3:key=48
   ·rw[if_pos k3]at h;cases h;simp
   rw[if_neg k3]at h;by_cases k4:key=94
   ·rw[if_pos k4]at h;cases h;simp;omega
   rw[if_neg k4]at h;by_cases k5:key=98
   ·rw[if_pos k5]at h;by_cases j:k=0
    ·rw[if_pos j]at h;cases h
    ·rw[if_neg j]at h;cases h;simp;exact⟨e3,fun _=>e5⟩
   rw[if_neg k5]at h;by_cases k6:key=66
   ·rw[if_pos k6]at h;by_cases j:k=0
    ·rw[if_pos j]at h;cases h
    ·rw[if_neg j]at h;cases h;simp;exact⟨e4,fun _=>e6⟩
   rw[if_neg k6]at h;by_cases k7:l.length=0
   ·rw[if_pos k7]at h;cases h
   rw[if_neg k7]at h;have e8':=e8 (by omega)
   have e9':=e9 (by omega)
   by_cases k8:key=36
   ·rw[if_pos k8]at h;cases h;simp;omega
   rw[if_neg k8]at h;by_cases k9:key=124
   ·rw[if_pos k9]at h;cases h;simp;omega
   rw[if_neg k9]at h;by_cases k10:key=119
   ·rw[if_pos k10]at h
    cases op
    ·simp only[Bool.false_eq_true,if_false]at h
     by_cases j:min x3 (l.length-1)=k
     ·rw[if_pos j]at h;cases h
     ·rw[if_neg j]at h;cases h;simp;omega
    ·simp only[if_true]at h
     cases h;simp;exact e1
   rw[if_neg k10]at h;by_cases k11:key=87
   ·rw[if_pos k11]at h
    cases op
    ·simp only[Bool.false_eq_true,if_false]at h
     by_cases j:min x4 (l.length-1)=k
     ·rw[if_pos j]at h;cases h
     ·rw[if_neg j]at h;cases h;simp;omega
    ·simp only[if_true]at h
     cases h;simp;exact e2
   rw[if_neg k11]at h;by_cases k12:key=101
   ·rw[if_pos k12]at h
    by_cases j:op=false∧x1=k
    ·rw[if_pos j]at h;cases h
    ·rw[if_neg j]at h;cases h;simp;omega
   rw[if_neg k12]at h;by_cases k13:key=69
   ·rw[if_pos k13]at h
    by_cases j:op=false∧x2=k
    ·rw[if_pos j]at h;cases h
    ·rw[if_neg j]at h;cases h;simp;omega
   rw[if_neg k13]at h;cases h
theorem Vg {key arg:Int}{g:Nat}{op:Bool}{o o':Option (Nat×Bool)}(h:Yl l k key arg g op o)(h':Yl l k key arg g op o'):o=o':=by
 unfold Yl at h h';split at h
 ·rename_i hf
  rw[if_pos hf]at h';rw[h,h']
 ·rename_i hf
  rw[if_neg hf]at h';unfold Ch at h h';split at h
  ·rename_i hk
   rw[if_pos hk]at h';rcases h with⟨i,m,h1,rfl⟩|⟨h1,rfl⟩<;>rcases h' with⟨i',m',h2,rfl⟩|⟨h2,rfl⟩
   ·rw[(jF h1 h2).2]
   ·exact absurd h2 (Zn h1)
   ·exact absurd h1 (Zn h2)
   ·rfl
  ·rename_i hk
   rw[if_neg hk]at h';rw[h,h']
def Pn (c:Int):Prop:=32≤c∧c≠127
theorem J1h {c:Int}(h:Pn c):Calls prog 141 #[.int .i64 c] w fun e w'=>e=.returned (.bool false)∧w'=w:=by
 obtain⟨h1,h2⟩:=h;have h3:(c==127)=false:=by simpa using h2
 have h4:decide (c<32)=false:=by simpa using h1
 clear h2;go_enter func141,ntmps141
 go_wp2_with fail
 go_ret
 exact⟨rfl,rfl⟩
theorem J0d (hl:Bj w A n c l)(hg:∀k,k<n→Pn (gI l k)):
 Calls prog 70 #[.slice A n c,.func (.func 141) #[] #[]] w fun e w'=>e=.returned (.int .i64 (-1))∧w'=w:=by
 have h1:=hl.ncap;have h2:=hl.nmax;unfold maxLen at h2;have HG:=A6 hg;clear hg;go_enter func70,ntmps70
 go_wp2_with fail
 go_loopw [8] (fun i wr=>∃k:Nat,k≤n∧i=.int .i64 k∧wr=w) (fun i _=>n-(intOf i).toNat)
 case atStart=>exact⟨0,by omega,rfl,rfl⟩
 case round=>
  obtain⟨k,hk,rfl,rfl⟩:=hrel;by_cases ae:k<n
  ·obtain⟨a1,rfl,bh⟩:=hl.at_ ae
   have c1:=bh k ae;clear bh;go_wp2_with fail
   refine(J1h (HG.out k ae)).mono ?_
   rintro e w1 ⟨rfl,rfl⟩;go_wp2_with fail
   go_roundw
   case rel=>exact⟨k+1,by omega,by go_num,trivial⟩
   case measure=>simp[intOf];omega
  ·obtain rfl:k=n:=by omega
   go_wp2_with fail
   go_ret
   exact⟨rfl,rfl⟩
theorem wL (hl:Bj w A n c l)(hg:∀k,k<n→Pn (gI l k)):
 Calls prog 45 #[.slice A n c,.func (.func 141) #[] #[]] w fun e w'=>e=.returned (.bool false)∧w'=w:=by
 have h1:=hl.ncap;have h2:=hl.nmax;unfold maxLen at h2;have HG:=A6 hg;clear hg;go_enter func45,ntmps45
 go_wp2_with fail
 refine(J0d hl HG.out).mono ?_
 rintro e w1 ⟨rfl,rfl⟩;go_wp2_with fail
 go_ret
 exact⟨rfl,rfl⟩
theorem Ra {at_:Int}(hl:Bj w A n c l)(hg:∀k,k<n→Pn (gI l k))(h1:2≤n)(h2:n≤120)(h3:0≤at_)(h4:at_≤n):
 Calls prog 101 #[.agg #[.slice A n c,at_]] w fun e w'=>e=.returned (.int .i64 0)∧An w w':=by
 have aw:=hl.ncap;have aq:=hl.nmax;unfold maxLen at aq;have HG:=A6 hg;clear hg;go_enter func101,ntmps101
 go_wp2_with fail
 refine(wL (hl.ext (An.alloc _ _)) HG.out).mono ?_
 rintro e w1 ⟨rfl,rfl⟩;exact I70
theorem Aq.keepCell {g t:Nat}{cs:Array Value}(h:Aq w g t cs){p:Addr}(hp:p.block≠g)(u:Value):Aq (w.setCell p u) g t cs:=by
 exact I109
def Yd (n at_ off width:Int):Prop:=n<0∨n>200∨at_<0∨at_>n∨off<0∨off>200∨width<2∨width>120
instance (n at_ off width:Int):Decidable (Yd n at_ off width):=by unfold Yd;exact inferInstance
def Qc (at_ off width:Int):Int:=if at_<off then at_ else if at_≥off+width then at_-width+1 else off
def Rx (c:Int):Int:=if c<32∨c=127∨c=65533 then 63 else c
theorem jT (c:Int):32≤Rx c∧Rx c≠127:=by unfold Rx;split<;>omega
theorem yR {a b c:Int}(h:a=b):Ending.returned (.tuple #[a,c])=.returned (.tuple #[b,c]):=by rw[h]
theorem Un {n at_ off width:Int}(h:¬Yd n at_ off width):
 Calls prog 67 #[.int .i64 n,.int .i64 at_,.int .i64 off,.int .i64 width] w fun e w'=>e=.returned (.tuple #[.int .i64 (Qc at_ off width),(0:Int)])∧w'=w:=by
 unfold Yd at h;have h1:0≤n:=by omega
 have h2:n≤200:=by omega
 have h3:0≤at_:=by omega
 have h4:at_≤n:=by omega
 have h5:0≤off:=by omega
 have h6:off≤200:=by omega
 have h7:2≤width:=by omega
 have h8:width≤120:=by omega
 clear h;go_enter func67,ntmps67
 go_wp2_with fail
 all_goals (go_ret2;refine⟨yR ?_,rfl⟩;unfold Qc;(repeat' split)<;>omega)
theorem J1l (c:Int)(w:World):Calls prog 100 #[.int .i64 c] w fun e w'=>e=.returned (.int .i64 (Rx c))∧w'=w:=by
 have HF:Hid (∀v,((c<32∨c=127∨c=65533)→v=63)→(¬(c<32∨c=127∨c=65533)→v=c)→v=Rx c):=A6 (fun v h1 h2=>by
  unfold Rx;split
  ·exact h1 ‹_›
  ·exact h2 ‹_›)
 rcases Decidable.em (c=127)with h|h
 ·subst h
  exact I89
 rcases Decidable.em (c=65533)with g|g
 ·subst g
  exact I89
 have b1:(c==127)=false:=by simpa using h
 have b2:(c==65533)=false:=by simpa using g
 have H1:=A6 h;have H2:=A6 g;clear h g;go_enter func100,ntmps100
 go_wp2_with fail
 all_goals (go_ret;have h1:=H1.out;have h2:=H2.out;refine⟨Ju (HF.out _ ?_ ?_),rfl⟩<;>intro hh<;>first|rfl|omega)
theorem zK {n at_ off width:Int}(h:¬Yd n at_ off width)(hk:Qc at_ off width=off):
 Calls prog 99 #[.int .i64 n,.int .i64 at_,.int .i64 off,.int .i64 width] w fun e w'=>e=.returned (.int .i64 0)∧w'=w:=by
 go_enter func99,ntmps99
 go_wp2_with fail
 refine(Un h).mono ?_
 rintro e w1 ⟨rfl,rfl⟩;rw[hk];clear hk h;go_wp2_with fail
 go_ret
 exact⟨rfl,rfl⟩
def Nr (l:List Int)(k:Int)(i:Nat):Int:=if k+i<l.length then Rx (gI l (k+i).toNat)else 32
def Jm (l:List Int)(k:Int)(n:Nat):List Int:=(List.range n).map (Nr l k)
theorem nJ (l:List Int)(k:Int)(n:Nat):Jm l k (n+1)=Jm l k n++[Nr l k n]:=by unfold Jm;rw[List.range_succ,List.map_append];rfl
theorem cS (l:List Int)(k:Int)(n:Nat):(Jm l k n).length=n:=by unfold Jm;simp
theorem yP (l:List Int)(k:Int){n i:Nat}(h:i<n):gI (Jm l k n) i=Nr l k i:=by unfold Jm gI;simp[h]
theorem eZ (l:List Int)(k:Int)(i:Nat):Pn (Nr l k i):=by
 unfold Nr Pn;split
 ·exact jT _
 ·omega
theorem J3j {at_ k:Int}{width:Nat}(hl:Bj w A n c l)(h:¬Yd n at_ k width)(hk:Qc at_ k width=k):
 Calls prog 68 #[.slice A n c,.int .i64 at_,.int .i64 k,.int .i64 width] w fun e w'=>∃B d,e=.returned (.tuple #[.agg #[.slice B width d,.int .i64 (at_-k)],(0:Int)])∧Ba w' w.heap.size B width d (Jm l k width)∧An w w':=by
 obtain⟨i0,hi,bm,bz,az⟩:=info_parts Cd;have HB:=A6 h;have HK:=A6 hk;have ab:=A6 hl.len;unfold Yd at h;have h1:(n:Int)≤200:=by omega
 have h2:0≤at_:=by omega
 have h3:at_≤n:=by omega
 have h4:0≤k:=by omega
 have h5:k≤200:=by omega
 have h6:2≤width:=by omega
 have h7:width≤120:=by omega
 clear h hk;obtain⟨kn,rfl⟩:=Int.eq_ofNat_of_zero_le h4;have aw:=hl.ncap;have aq:=hl.nmax;unfold maxLen at aq;go_enter func68,ntmps68
 go_wp2_with fail
 refine(zK HB.out HK.out).mono ?_
 rintro e w1 ⟨rfl,rfl⟩;go_wp2_with fail
 go_loopw [33] (fun i wr=>∃(j:Nat) (B:Option Addr) (d:Nat),j≤width∧i=.int .i64 j∧Aq wr w.heap.size 41 #[.slice none 0 0,.int .i64 0]∧Aq wr (w.heap.size+1) 41 #[.slice B j d,.int .i64 (at_-kn)]∧Ba wr (w.heap.size+2) B j d (Jm l kn j)∧An w wr) (fun i _=>width-(intOf i).toNat)
 case atStart=>
  refine⟨0,none,0,by omega,rfl,(Aq.new _ _ _).ext (An.alloc _ _),?_,Ba.nil _ _,(An.alloc _ _).to_alloc _⟩
  have:=Aq.new (w.alloc (Obj.cells #[Ak none 0 0,Av IntKind.i64 0] 41)) 41 #[Ak none 0 0,Av IntKind.i64 (at_-kn)]
  simpa using this
 case round=>
  obtain⟨j,B,d,hj,rfl,a9,al,ac,he⟩:=hrel;have f1':=al.frozen 0;have c1:=al.cell 0;have fy:=al.lt;simp only[Ah,Af,Ag]at c1;by_cases ae:j<width
  ·by_cases lm:kn+j<n
   ·have N0:=trivial;exact K37
   ·have N1:=trivial;exact K37
  ·obtain rfl:j=width:=by omega
   have c2:=al.cell 1;have f0:=a9.frozen 0;have f00:=a9.frozen 1;have c4:=a9.cell 0;have c5:=a9.cell 1;simp only[Ah,Af,Ag]at c2 c4 c5;go_wp2_with fail
   have bi:Aq ((wr.setCell ⟨w,0,none⟩ (.slice B j d)).setCell ⟨w,1,none⟩ (.int .i64 (at_-kn))) w.heap.size 41 #[.slice B j d,.int .i64 (at_-kn)]:=by
    simpa using(a9.set_ 0 (.slice B j d)).set_ 1 (.int .i64 (at_-kn))
   have c6:=bi.cell 0;have c7:=bi.cell 1;simp only[Ah,Af,Ag]at c6 c7;clear c1 c2 c4 c5 f0 f00;refine bodyPost_ret (by simp[results,results68,go_sem,c6,c7];try rfl) rfl ?_
   exact⟨B,d,rfl,Bd.lower (Bd.setCell (Bd.setCell ac (by simp) _) (by simp) _) (by omega),(he.setCell (by simp) _).setCell (by simp) _⟩
def Uf (r:List Int×Nat)(c:Int):List Int×Nat:=
 if c=8 then(r.1,r.2-1)else if c=13 then(r.1,0)else if c=11 then(r.1.take r.2++List.replicate (r.1.length-r.2) 32,r.2)
 else if 32≤c∧c≠127∧r.2<r.1.length then(r.1.set r.2 c,r.2+1)else r
def Cy (r:List Int×Nat)(s:List Int):List Int×Nat:=s.foldl Uf r
theorem J4r {k j:Nat}{v:Int}(hk:k<l.length):gI (l.set k v) j=if j=k then v else gI l j:=by
 unfold gI;by_cases h:j=k
 ·subst h;rw[if_pos rfl,List.getElem?_set_self hk];rfl
 ·rw[if_neg h,List.getElem?_set_ne (fun e=>h e.symm)]
theorem Sp (r:List Int×Nat)(a b:List Int):Cy r (a++b)=Cy (Cy r a) b:=by unfold Cy;rw[List.foldl_append]
def Gn (b:List Int)(x y:Nat):List Int:=
 if x≤y then(b.drop x).take (y-x)else if x-y≤1+y then Aw (x-y) 8 else 13::b.take y
def Jl (b:List Int)(j:Nat×List Int)(k:Nat):Nat×List Int:=(k,j.2++Gn b j.1 k)
def Dw (b:List Int)(j:Nat×List Int)(x y:Nat):Nat×List Int:=(y,(Jl b j x).2++(b.drop x).take (y-x))
def Dt (b:List Int)(j:Nat×List Int)(k:Nat):Nat×List Int:=(k,(Jl b j k).2++[11])
def Y8 (a b:List Int)(to:Nat):Nat→Nat→Nat
 |0,k=>k
 |f+1,k=>if gI a k=gI b k then Y8 a b to f (k+1)else k
def Y9 (a b:List Int)(fr:Nat):Nat→Nat→Nat
 |0,k=>k
 |f+1,k=>if gI a (k-1)=gI b (k-1)then Y9 a b fr f (k-1)else k
def Fk (a b:List Int)(x y:Nat):Nat:=Y8 a b y (y-x) x
def Hm (a b:List Int)(x y:Nat):Nat:=Y9 a b (Fk a b x y) (y-Fk a b x y) y
theorem Sz (a b:List Int)(to:Nat):∀(f k:Nat),k≤Y8 a b to f k∧Y8 a b to f k≤k+f∧(∀i,k≤i→i<Y8 a b to f k→gI a i=gI b i)∧(Y8 a b to f k<k+f→gI a (Y8 a b to f k)≠gI b (Y8 a b to f k))
 |0,k=>⟨Aj _,Aj _,fun i h1 h2=>by simp only[Y8]at h2;omega,fun h=>by simp[Y8]at h⟩
 |f+1,k=>by
  unfold Y8;split
  ·rename_i h
   obtain⟨h1,h2,h3,h4⟩:=Sz a b to f (k+1);refine⟨by omega,by omega,fun i hi hl=>?_,fun hl=>h4 (by omega)⟩
   rcases Nat.eq_or_lt_of_le hi with rfl|ae
   ·exact h
   ·exact h3 i ae hl
  ·exact I120
theorem Wy (a b:List Int)(fr:Nat):∀(f k:Nat),f≤k→Y9 a b fr f k≤k∧k-f≤Y9 a b fr f k∧(∀i,Y9 a b fr f k≤i→i<k→gI a i=gI b i)∧(k-f<Y9 a b fr f k→gI a (Y9 a b fr f k-1)≠gI b (Y9 a b fr f k-1))
 |0,k,_=>⟨Aj _,by simp[Y9],fun i h1 h2=>by simp only[Y9]at h1;omega,fun h=>by simp[Y9]at h⟩
 |f+1,k,hk=>by
  unfold Y9;split
  ·rename_i h
   obtain⟨h1,h2,h3,h4⟩:=Wy a b fr f (k-1) (by omega)
   refine⟨by omega,by omega,fun i hi hl=>?_,fun hl=>h4 (by omega)⟩
   rcases Ay i (k-1)with ae|ku
   ·exact h3 i hi ae
   ·rw[show i=k-1 by omega];exact h
  ·exact I120
theorem Lz (a b:List Int)(h:x≤y):x≤Fk a b x y∧Fk a b x y≤Hm a b x y∧Hm a b x y≤y∧(∀i,x≤i→i<Fk a b x y→gI a i=gI b i)∧(∀i,Hm a b x y≤i→i<y→gI a i=gI b i):=by
 obtain⟨h1,h2,h3,h4⟩:=Sz a b y (y-x) x;obtain⟨k1,k2,k3,_⟩:=Wy a b (Fk a b x y) (y-Fk a b x y) y (by omega)
 have e1:Fk a b x y=Y8 a b y (y-x) x:=rfl;have e2:Hm a b x y=Y9 a b (Fk a b x y) (y-Fk a b x y) y:=rfl;rw[←e1]at h1 h2 h3;rw[←e2]at k1 k2 k3;exact⟨h1,by omega,k1,h3,k3⟩
theorem pN (a b:List Int)(h:x≤y)(ae:Fk a b x y<Hm a b x y):gI a (Hm a b x y-1)≠gI b (Hm a b x y-1):=by
 obtain⟨h1,h2,h3,h4⟩:=Sz a b y (y-x) x;have e1:Fk a b x y=Y8 a b y (y-x) x:=rfl;exact(Wy a b (Fk a b x y) (y-Fk a b x y) y (by omega)).2.2.2 (by
  have e2:Hm a b x y=Y9 a b (Fk a b x y) (y-Fk a b x y) y:=rfl;omega)
def Fn (b:List Int):Nat→Nat
 |0=>0
 |n+1=>if gI b n=32 then Fn b n else n+1
theorem Su (b:List Int):∀n,Fn b n≤n∧∀i,Fn b n≤i→i<n→gI b i=32
 |0=>⟨Aj _,fun i _ h=>absurd h (by omega)⟩
 |n+1=>by
  unfold Fn;split
  ·rename_i h
   obtain⟨h1,h2⟩:=Su b n;refine⟨by omega,fun i hi hl=>?_⟩
   rcases Ay i n with ae|ku
   ·exact h2 i hi ae
   ·rw[show i=n by omega];exact h
  ·exact⟨Aj _,fun i h1 h2=>by omega⟩
def fJ (b:List Int)(st at_ p:Nat):List Int:=(Jl b (Dt b (st,[]) p) at_).2
def lX (b:List Int)(st at_ p lo hi:Nat):List Int:=(Jl b (Dt b (Dw b (st,[]) lo hi) p) at_).2
def xX (b:List Int)(st at_ p lo hi:Nat):List Int:=(Jl b (Dw b (Dt b (st,[]) p) lo hi) at_).2
def Mv (b:List Int)(st at_ p lo hi:Nat):List (List Int):=if lo<hi then [lX b st at_ p lo hi,xX b st at_ p lo hi]else [fJ b st at_ p]
def Jr (x w:List Int):List Int:=if w.length<x.length then w else x
def Gj (best:List Int)(ws:List (List Int)):List Int:=ws.foldl Jr best
def P7 (b:List Int)(st at_ lo hi:Nat):Nat→Nat→List Int→List Int
 |0,_,best=>best
 |f+1,p,best=>P7 b st at_ lo hi f (p+1) (Gj best (Mv b st at_ p lo hi))
def F0 (a:List Int)(st:Nat)(b:List Int)(at_:Nat):List Int:=
 let n:=b.length
 let x:=Fk a b 0 n
 let y:=Hm a b 0 n
 if x<y then
  let best:=(Jl b (Dw b (st,[]) x y) at_).2
  let full:=Fn b n
  let fi:=Fk a b full n
  if fi<Hm a b full n then P7 b st at_ (Fk a b 0 full) (Hm a b 0 full) (fi+1-full) full best else best
 else(Jl b (st,[]) at_).2
theorem qG (x w:List Int):Jr x w=x∨Jr x w=w:=by unfold Jr;split<;>simp
theorem qH (x w:List Int):(Jr x w).length≤x.length∧(Jr x w).length≤w.length:=by unfold Jr;split<;>omega
theorem Y2 {Q:List Int→Prop}:∀(ws:List (List Int)) (x:List Int),Q x→(∀w∈ws,Q w)→Q (Gj x ws)
 |[],x,h,_=>h
 |w::ws,x,h,h2=>Y2 ws (Jr x w) (by rcases qG x w with e|e<;>rw[e];exact h;exact h2 w (by simp)) (fun v hv=>h2 v (by simp[hv]))
theorem U9:∀(ws:List (List Int)) (x:List Int),(Gj x ws).length≤x.length∧∀w∈ws,(Gj x ws).length≤w.length
 |[],x=>⟨Aj _,fun w h=>by cases h⟩
 |v::ws,x=>by
  obtain⟨h1,h2⟩:=U9 ws (Jr x v);have h3:=qH x v;have e:Gj x (v::ws)=Gj (Jr x v) ws:=rfl;rw[e];refine⟨by omega,fun w hw=>?_⟩
  rcases List.mem_cons.1 hw with rfl|hw
  ·omega
  ·exact h2 w hw
theorem aD {Q:List Int→Prop}{b:List Int}{st at_ lo hi:Nat}:∀(f p:Nat) (x:List Int),Q x→(∀q,p≤q→q<p+f→∀w∈Mv b st at_ q lo hi,Q w)→Q (P7 b st at_ lo hi f p x)
 |0,p,x,h,_=>h
 |f+1,p,x,h,h2=>aD f (p+1) _ (Y2 _ _ h (h2 p (Aj _) (by omega))) (fun q h3 h4=>h2 q (by omega) (by omega))
theorem dU {b:List Int}{st at_ lo hi:Nat}:∀(f p:Nat) (x:List Int),(P7 b st at_ lo hi f p x).length≤x.length
 |0,p,x=>Aj _
 |f+1,p,x=>Ar (dU f (p+1) _) (U9 _ _).1
theorem Ut {st at_ lo hi:Nat}(f p:Nat)(x:List Int){w:List Int}(hw:w∈Mv b st at_ p lo hi):(P7 b st at_ lo hi (f+1) p x).length≤w.length:=
 Ar (dU f (p+1) _) ((U9 _ _).2 w hw)
def Hz (b:List Int)(r r':List Int×Nat)(x y:Nat):Prop:=r'.1.length=r.1.length∧∀i,i<b.length→(gI r.1 i=gI b i∨x≤i∧i<y)→gI r'.1 i=gI b i
theorem Hz.refl (b:List Int)(r:List Int×Nat):Hz b r r 0 0:=⟨rfl,fun i _ h=>by rcases h with h|h;exact h;omega⟩
theorem Hz.less {r r':List Int×Nat}{x y x' y':Nat}(h:Hz b r r' x y)(hh:∀i,x'≤i→i<y'→x≤i∧i<y):Hz b r r' x' y':=⟨h.1,fun i hi hl=>h.2 i hi (hl.imp id (fun k=>hh i k.1 k.2))⟩
def okB (b:List Int):Prop:=∀k,k<b.length→Pn (gI b k)
theorem vM {c:Int}(h:Pn c):32≤c∧c≠127:=h
theorem mZ {cs:List Int}{p:Nat}{c:Int}(h:Pn c)(hp:p<cs.length):Uf (cs,p) c=(cs.set p c,p+1):=by
 obtain⟨h1,h2⟩:=vM h;unfold Uf;rw[if_neg (by omega),if_neg (by omega),if_neg (by omega),if_pos ⟨h1,h2,hp⟩]
theorem Nv {b:List Int}(hb:okB b):∀(m x:Nat) (cs:List Int),cs.length=b.length→x+m≤b.length→
 (Cy (cs,x) ((b.drop x).take m)).2=x+m∧Hz b (cs,x) (Cy (cs,x) ((b.drop x).take m)) x (x+m)
 |0,x,cs,hc,hm=>by
  simp only[List.take_zero,Cy,List.foldl_nil];exact⟨rfl,(Hz.refl b _).less (fun i h1 h2=>by omega)⟩
 |m+1,x,cs,hc,hm=>by
  have hx:x<b.length:=by omega
  have e:(b.drop x).take (m+1)=gI b x::(b.drop (x+1)).take m:=by
   rw[List.drop_eq_getElem_cons hx,List.take_succ_cons];simp[gI,hx]
  have e2:Cy (cs,x) ((b.drop x).take (m+1))=Cy (cs.set x (gI b x),x+1) ((b.drop (x+1)).take m):=by
   rw[e]
   show Cy (Uf (cs,x) (gI b x)) _=_
   rw[mZ (hb x hx) (by omega)]
  obtain⟨h1,h2⟩:=Nv hb m (x+1) (cs.set x (gI b x)) (by simpa using hc) (by omega)
  rw[e2];refine⟨by omega,h2.1.trans (by simp),fun i hi hl=>?_⟩
  apply h2.2 i hi
  simp only;rw[J4r (by omega)]
  by_cases Oh:i=x
  ·left;rw[if_pos Oh,Oh]
  ·rw[if_neg Oh]
   rcases hl with hl|hl
   ·exact .inl hl
   ·exact .inr (by omega)
theorem Z5 (cs:List Int):∀(m x:Nat),m≤x→Cy (cs,x) (Aw m 8)=(cs,x-m)
 |0,x,_=>rfl
 |m+1,x,h=>by
  rw[List.replicate_succ]
  show Cy (Uf (cs,x) 8) _=_
  have:Uf (cs,x) 8=(cs,x-1):=rfl;rw[this,Z5 cs m (x-1) (by omega),show x-1-m=x-(m+1)by omega]
theorem cN (hb:okB b){cs:List Int}(hc:cs.length=b.length)(hx:x≤b.length)(hy:y≤b.length):
 (Cy (cs,x) (Gn b x y)).2=y∧Hz b (cs,x) (Cy (cs,x) (Gn b x y)) x y:=by
 unfold Gn;split
 ·rename_i h
  have:=Nv hb (y-x) x cs hc (by omega)
  rw[show x+(y-x)=y by omega]at this
  exact this
 ·rename_i h
  split
  ·rw[Z5 cs _ _ (by omega)]
   exact⟨by simp only;omega,⟨rfl,fun i _ hl=>by rcases hl with hl|hl;exact hl;omega⟩⟩
  ·have e:Cy (cs,x) (13::b.take y)=Cy (cs,0) ((b.drop 0).take y):=rfl
   rw[e];have:=Nv hb y 0 cs hc (by omega)
   rw[Nat.zero_add]at this;refine⟨this.1,this.2.1,fun i hi hl=>this.2.2 i hi (hl.imp id (fun k=>by omega))⟩
def fH (b:List Int)(r:List Int×Nat)(j:Nat×List Int)(x y:Nat):Prop:=(Cy r j.2).2=j.1∧Hz b r (Cy r j.2) x y∧j.1≤b.length
theorem fH.start (b:List Int)(r:List Int×Nat)(h:r.2≤b.length):fH b r (r.2,[]) 0 0:=⟨rfl,Hz.refl b r,h⟩
theorem Q1 (r:List Int×Nat){p:Nat}(h:r.2=p):r=(r.1,p):=by rw[←h]
theorem fH.to_ (hb:okB b)(hr:r.1.length=b.length){x y k:Nat}(h:fH b r j x y)(hk:k≤b.length):fH b r (Jl b j k) x y∧(j.1≤k→∀i,j.1≤i→i<k→gI (Cy r (Jl b j k).2).1 i=gI b i):=by
 obtain⟨h1,h2,h3⟩:=h;have e:Cy r (Jl b j k).2=Cy ((Cy r j.2).1,j.1) (Gn b j.1 k):=by
  show Cy r (j.2++Gn b j.1 k)=_
  rw[Sp,←Q1 _ h1]
 obtain⟨k1,k2⟩:=cN hb (x:=j.1) (y:=k) (cs:=(Cy r j.2).1) (by rw[h2.1,hr]) h3 hk
 rw[←e]at k1 k2;refine⟨⟨k1,⟨k2.1.trans h2.1,fun i hi hl=>k2.2 i hi (.inl (h2.2 i hi hl))⟩,hk⟩,fun _ i h4 h5=>k2.2 i (by omega) (.inr ⟨h4,h5⟩)⟩
theorem fH.over (hb:okB b)(hr:r.1.length=b.length){x y u v:Nat}(h:fH b r j x y)(AH:u≤v)(hv:v≤b.length):
 fH b r (Dw b j u v) x y∧fH b r (Dw b j u v) u v:=by
 obtain⟨⟨h1,h2,h3⟩,_⟩:=h.to_ hb hr (k:=u) (by omega)
 have e:Cy r (Dw b j u v).2=Cy ((Cy r (Jl b j u).2).1,u) ((b.drop u).take (v-u)):=by
  show Cy r ((Jl b j u).2++(b.drop u).take (v-u))=_
  rw[Sp];rw[←Q1 _ (show(Cy r (Jl b j u).2).2=u from h1)]
 obtain⟨k1,k2⟩:=Nv hb (v-u) u (Cy r (Jl b j u).2).1 (by rw[h2.1,hr]) (by omega)
 rw[←e,show u+(v-u)=v by omega]at k1 k2
 exact⟨⟨k1,⟨k2.1.trans h2.1,fun i hi hl=>k2.2 i hi (.inl (h2.2 i hi hl))⟩,hv⟩,⟨k1,⟨k2.1.trans h2.1,fun i hi hl=>by
  rcases hl with hl|hl
  ·exact k2.2 i hi (.inl (h2.2 i hi (.inl hl)))
  ·exact k2.2 i hi (.inr hl)⟩,hv⟩⟩
theorem fH.erase (hb:okB b)(hr:r.1.length=b.length){x y k:Nat}(h:fH b r j x y)(hk:k≤b.length)(dk:∀i,k≤i→i<b.length→gI b i=32):
 fH b r (Dt b j k) x y∧fH b r (Dt b j k) k b.length:=by
 obtain⟨⟨h1,h2,h3⟩,_⟩:=h.to_ hb hr (k:=k) hk;have e:Cy r (Dt b j k).2=Uf (Cy r (Jl b j k).2) 11:=by
  show Cy r ((Jl b j k).2++[11])=_
  rw[Sp];rfl
 have h1:(Cy r (Jl b j k).2).2=k:=h1;have gq:(Cy r (Jl b j k).2).1.length=b.length:=by rw[h2.1,hr]
 have e2:Uf (Cy r (Jl b j k).2) 11=((Cy r (Jl b j k).2).1.take k++Aw (b.length-k) 32,k):=by
  rw[Q1 _ h1]
  show((Cy r (Jl b j k).2).1.take k++Aw ((Cy r (Jl b j k).2).1.length-k) 32,k)=_
  rw[gq]
 have key:∀i,i<b.length→gI (Cy r (Dt b j k).2).1 i=if i<k then gI (Cy r (Jl b j k).2).1 i else 32:=fun i hi=>by
  rw[e,e2];unfold gI;simp only;split
  ·rename_i zw
   rw[List.getElem?_append_left (by rw[Cp];omega),List.getElem?_take,if_pos zw]
  ·rename_i zw
   rw[List.getElem?_append_right (by rw[Cp];omega),List.getElem?_replicate,if_pos (by rw[Cp];omega)]
   rfl
 have ab:(Cy r (Dt b j k).2).1.length=r.1.length:=by
  rw[e,e2,hr];simp only[Be,Cp,List.length_replicate];omega
 have JU:(Cy r (Dt b j k).2).2=k:=by rw[e,e2]
 refine⟨⟨JU,⟨ab,fun i hi hl=>?_⟩,hk⟩,⟨JU,⟨ab,fun i hi hl=>?_⟩,hk⟩⟩
 ·rw[key i hi]
  split
  ·exact h2.2 i hi hl
  ·rename_i zw;exact(dk i (by omega) hi).symm
 ·rw[key i hi]
  split
  ·rename_i zw
   rcases hl with hl|hl
   ·exact h2.2 i hi (.inl hl)
   ·omega
  ·rename_i zw;exact(dk i (by omega) hi).symm
theorem dX {b c:List Int}(hc:c.length=b.length)(h:∀i,i<b.length→gI c i=gI b i):c=b:=by
 apply List.ext_getElem?
 intro i;rcases Ay i b.length with hi|hi
 ·have:=h i hi
  unfold gI at this;rw[Bm hi,Bm (by omega)]at this ⊢
  simpa using this
 ·rw[List.getElem?_eq_none hi,List.getElem?_eq_none (by omega)]
theorem yG (hx:x≤b.length)(hy:y≤b.length):(Gn b x y=[])↔x=y:=by
 unfold Gn
 constructor
 ·intro h
  split at h
  ·have:=congrArg List.length h
   simp at this;omega
  ·split at h
   ·have:=congrArg List.length h
    simp at this;omega
   ·cases h
 ·rintro rfl
  simp
def L7 (x y:Nat):Nat:=if x≤y then y-x else min (x-y) (1+y)
theorem Mh (hx:x≤b.length)(hy:y≤b.length):(Gn b x y).length=L7 x y:=by
 unfold Gn L7;split
 ·simp;omega
 ·exact I106
theorem nA {a b:List Int}{st at_:Nat}(hl:a.length=b.length)(hb:okB b)(j8:st≤b.length)(gt:at_≤b.length):
 Cy (a,st) (F0 a st b at_)=(b,at_)∧(F0 a st b at_).length≤2+Fn b b.length+L7 (Fn b b.length) at_∧(F0 a st b at_=[]↔a=b∧st=at_):=by
 obtain⟨d1,d2,d3,d4,d5⟩:=Lz a b (B8 b.length);obtain⟨f1,f2⟩:=Su b b.length;have S0:=fH.start b (a,st) j8;have hr:((a,st):List Int×Nat).1.length=b.length:=hl;have fin:∀{j:Nat×List Int},fH b (a,st) j 0 0→(∀i,i<b.length→gI (Cy (a,st) j.2).1 i=gI b i)→Cy (a,st) (Jl b j at_).2=(b,at_):=fun {j} hj ax=>by
  obtain⟨h1,_⟩:=hj.to_ hb hr (k:=at_) gt;obtain⟨k1,k2⟩:=hj.to_ hb hr (k:=at_) gt;have e:Cy (a,st) (Jl b j at_).2=Cy ((Cy (a,st) j.2).1,j.1) (Gn b j.1 at_):=by
   show Cy (a,st) (j.2++Gn b j.1 at_)=_
   rw[Sp,←Q1 _ hj.1]
  obtain⟨q1,q2⟩:=cN hb (x:=j.1) (y:=at_) (cs:=(Cy (a,st) j.2).1) (by rw[hj.2.1.1,hr]) hj.2.2 gt
  rw[←e]at q1 q2;have:(Cy (a,st) (Jl b j at_).2).1=b:=dX (by rw[q2.1];exact hj.2.1.1.trans hr) (fun i hi=>q2.2 i hi (.inl (ax i hi)))
  rw[Q1 _ q1,this]
 unfold F0;simp only;split
 ·rename_i fl
  have ai:a≠b:=by
   rintro rfl;obtain⟨g1,g2,g3,g4⟩:=Sz a a a.length (a.length-0) 0;exact g4 (by
    have:Fk a a 0 a.length=Y8 a a a.length (a.length-0) 0:=rfl;omega) rfl
  have d7:=pN a b (B8 b.length) fl;generalize Fk a b 0 b.length=x at*;generalize Hm a b 0 b.length=y at*
  -- the plain way
  have O:=S0.over hb hr (u:=x) (v:=y) (by omega) d3
  have O2:fH b (a,st) (Dw b (st,[]) x y) 0 0:=O.1;have A1:Cy (a,st) (Jl b (Dw b (st,[]) x y) at_).2=(b,at_):=fin O2 (fun i hi=>by
   rcases Ay i x with h1|h1
   ·exact O.2.2.1.2 i hi (.inl (d4 i (B8 _) h1))
   ·rcases Ay i y with h2|h2
    ·exact O.2.2.1.2 i hi (.inr ⟨h1,h2⟩)
    ·exact O.2.2.1.2 i hi (.inl (d5 i h2 hi)))
  have L1:(Jl b (Dw b (st,[]) x y) at_).2.length=L7 st x+(y-x)+L7 y at_:=by
   show((([]++Gn b st x)++(b.drop x).take (y-x))++Gn b y at_).length=_
   rw[Be,Be,Be,Mh j8 (by omega),Mh d3 gt,Cp,Dd,List.length_nil]
   omega
  split
  ·rename_i qv
   obtain⟨t1,t2,t3,t4,t5⟩:=Lz a b f1;obtain⟨m1,m2,m3,m4,m5⟩:=Lz a b (B8 (Fn b b.length));have m0:¬Fk a b 0 (Fn b b.length)<Hm a b 0 (Fn b b.length)→∀i,i<Fn b b.length→gI a i=gI b i:=fun h i hi=>by
    rcases Ay i (Fk a b 0 (Fn b b.length))with h1|h1
    ·exact m4 i (B8 _) h1
    ·exact m5 i (by omega) hi
   generalize dd:Fn b b.length=full at*;generalize Fk a b full b.length=fi at*;generalize Hm a b full b.length=fh at*;generalize Fk a b 0 full=lo at*;generalize Hm a b 0 full=hi at*;have dk:∀p,full≤p→∀i,p≤i→i<b.length→gI b i=32:=fun p hp i h1 h2=>f2 i (by omega) h2
   have Q:∀p,full≤p→p<full+(fi+1-full)→∀w∈Mv b st at_ p lo hi,Cy (a,st) w=(b,at_)∧w≠[]:=fun p hp mf w hw=>by
    have od:p≤b.length:=by omega
    unfold Mv at hw;split at hw
    ·rename_i te
     simp only[List.mem_cons,List.not_mem_nil,or_false]at hw;rcases hw with rfl|rfl
     ·have P1:=S0.over hb hr (u:=lo) (v:=hi) (by omega) (by omega)
      have P2:=P1.2.erase hb hr (k:=p) od (dk p hp);refine⟨fin (P1.1.erase hb hr (k:=p) od (dk p hp)).1 (fun i hi'=>?_),fun e=>?_⟩
      ·have N0:=trivial;exact K44
      ·have:=congrArg List.length e
       unfold lX Jl Dt at this;simp at this
     ·have P1:=S0.erase hb hr (k:=p) od (dk p hp)
      have P2:=P1.1.over hb hr (u:=lo) (v:=hi) (by omega) (by omega)
      have P3:=P1.2.over hb hr (u:=lo) (v:=hi) (by omega) (by omega)
      refine⟨fin P2.1 (fun i hi'=>?_),fun e=>?_⟩
      ·have N1:=trivial;exact K44
      ·have:=congrArg List.length e
       unfold xX Jl Dw Jl Dt at this;simp at this
    ·rename_i te
     simp only[List.mem_cons,List.not_mem_nil,or_false]at hw;subst hw;have P1:=S0.erase hb hr (k:=p) od (dk p hp);refine⟨fin P1.1 (fun i hi'=>?_),fun e=>?_⟩
     ·rcases Ay i p with h1|h1
      ·rcases Ay i full with h4|h4
       ·exact P1.1.2.1.2 i hi' (.inl (m0 te i h4))
       ·exact P1.1.2.1.2 i hi' (.inl (t4 i h4 (by omega)))
      ·exact P1.2.2.1.2 i hi' (.inr ⟨h1,hi'⟩)
     ·have:=congrArg List.length e
      unfold fJ Jl Dt at this;simp at this
   have BB:Cy (a,st) (P7 b st at_ lo hi (fi+1-full) full (Jl b (Dw b (st,[]) x y) at_).2)=(b,at_)∧P7 b st at_ lo hi (fi+1-full) full (Jl b (Dw b (st,[]) x y) at_).2≠[]:=
    aD (Q:=fun w=>Cy (a,st) w=(b,at_)∧w≠[]) _ _ _ ⟨A1,fun e=>by
     have:=congrArg List.length e;rw[L1]at this;simp at this;omega⟩ Q
   refine⟨BB.1,?_,⟨fun h=>absurd h BB.2,fun h=>absurd h.1 ai⟩⟩
   obtain⟨f,hf⟩:∃f,fi+1-full=f+1:=⟨fi-full,by omega⟩
   rw[hf];have U0:(fJ b st at_ full).length=L7 st full+1+L7 full at_:=by
    show((([]++Gn b st full)++[11])++Gn b full at_).length=_
    rw[Be,Be,Be,Mh j8 f1,Mh f1 gt];simp
   by_cases te:lo<hi
   ·have kg:lX b st at_ full lo hi∈Mv b st at_ full lo hi:=by unfold Mv;rw[if_pos te];simp
    refine Ar (Ut f full _ kg) ?_
    have:(lX b st at_ full lo hi).length=L7 st lo+(hi-lo)+L7 hi full+1+L7 full at_:=by
     show((((([]++Gn b st lo)++(b.drop lo).take (hi-lo))++Gn b hi full)++[11])++Gn b full at_).length=_
     simp only[Be,Cp,Dd,List.length_nil,List.length_cons];rw[Mh j8 (by omega),Mh (by omega) (by omega),Mh (by omega) gt]
     omega
    rw[this];have q1:L7 st lo≤1+lo:=by unfold L7;split<;>omega
    have q2:L7 hi full=full-hi:=by unfold L7;rw[if_pos m3]
    omega
   ·have kg:fJ b st at_ full∈Mv b st at_ full lo hi:=by unfold Mv;rw[if_neg te];simp
    refine Ar (Ut f full _ kg) ?_
    rw[U0];have q1:L7 st full≤1+full:=by unfold L7;split<;>omega
    omega
  ·rename_i qv
   refine⟨A1,?_,⟨fun h=>?_,fun h=>absurd h.1 ai⟩⟩
   ·rw[L1]
    obtain⟨t1,t2,t3,t4,t5⟩:=Lz a b f1;have hyf:y≤Fn b b.length:=by
     rcases Ay (Fn b b.length) y with h|h
     ·exact absurd (by
       rcases Ay (y-1) (Fk a b (Fn b b.length) b.length)with h5|h5
       ·exact t4 _ (by omega) h5
       ·exact t5 _ (by omega) (by omega)) d7
     ·exact h
    have q1:L7 st x≤1+x:=by unfold L7;split<;>omega
    have q2:L7 y at_≤(Fn b b.length-y)+L7 (Fn b b.length) at_:=by
     unfold L7;split<;>split<;>omega
    omega
   ·have:=congrArg List.length h
    rw[L1]at this;simp at this;omega
 ·rename_i fl
  have UL:∀i,i<b.length→gI a i=gI b i:=fun i hi=>by
   rcases Ay i (Fk a b 0 b.length)with h1|h1
   ·exact d4 i (B8 _) h1
   ·exact d5 i (by omega) hi
  have e:=dX hl UL;refine⟨fin S0 (fun i hi=>UL i hi),?_,?_⟩
  ·show([]++Gn b st at_).length≤_
   rw[Jk,Mh j8 gt];unfold L7;split<;>split<;>omega
  ·show []++Gn b st at_=[]↔_
   rw[Jk,yG j8 gt];exact⟨fun h=>⟨e,h⟩,fun h=>h.2⟩
end
