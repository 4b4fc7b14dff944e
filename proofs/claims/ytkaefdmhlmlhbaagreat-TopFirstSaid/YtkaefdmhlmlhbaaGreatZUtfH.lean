/-
  Part ZUtfH.
-/
import Derived.Test.YtkaefdmhlmlhbaaGreatZBase
import Derived.Laws.Cover4
set_option maxRecDepth 100000
set_option maxHeartbeats 16000000
set_option linter.unusedVariables false
set_option linter.unusedSimpArgs false
namespace Go.Proofs.YtkaefdmhlmlhbaaGreat
open _root_.List renaming length_cons→E3,mem_append→D3,mem_singleton→Cw,nil_append→Jk
section
variable {ah:List Nat}{b:Nat}
def Hs (l:List Int):List Nat:=l.flatMap fun c=>Gz c.toNat
theorem wC:Hs []=[]:=rfl
theorem pK (c:Int)(l:List Int):Hs (c::l)=Gz c.toNat++Hs l:=rfl
theorem Sf {l:List Int}(h:∀c∈l,Df c):∀x∈Hs l,x<256:=by
 intro x hx;unfold Hs at hx;obtain⟨c,hc,hx⟩:=List.mem_flatMap.1 hx;have:=h c hc;exact J0u (by have h1:=this.2.1;have h2:=this.1;omega) x hx
theorem J8q (l:List Int):l.length≤(Hs l).length:=by
 induction l with
 |nil=>simp
 |cons c l ih=>rw[pK,List.length_append,List.length_cons];have:=bN c.toNat;omega
theorem tI {c:Int}(h:Df c):Df (c.toNat:Nat):=by obtain⟨h0,h1⟩:=h;rw[Int.toNat_of_nonneg h0];exact⟨h0,h1⟩
theorem cO:∀(l:List Int) (s:ByteArray),(∀c∈l,Df c)→l.foldl (fun r n=>r++Utf8.encode n) s=s++Em (Hs l)
 |[],s,_=>by
  rw[wC];have:Em []=ByteArray.empty:=rfl;rw[this];simp
 |c::l,s,h=>by
  rw[List.foldl_cons,cO l _ (fun x hx=>h x (by simp[hx])),pK]
  have hc:=h c (by simp)
  have e:Utf8.encode c=Em (Gz c.toNat):=by
   have:=pI (tI hc)
   rwa[Int.toNat_of_nonneg hc.1]at this
  rw[e];unfold Em;rw[ByteArray.append_assoc]
  congr 1
  apply ByteArray.ext
  simp[ByteArray.data_append]
theorem Yg {l:List Int}(h:∀c∈l,Df c):runesBytes l=Em (Hs l):=by
 unfold runesBytes;rw[cO l _ h];simp
def Ux (b:Nat):Nat:=if b=224 then 160 else if b=240 then 144 else 128
def Uy (b:Nat):Nat:=if b=237 then 159 else if b=244 then 143 else 191
def Hk (b:Nat):Nat:=if b<128 then 1 else if 194≤b∧b≤223 then 2 else if 224≤b∧b≤239 then 3 else if 240≤b∧b≤244 then 4 else 0
def Eo (ah:List Nat)(b:Nat):Prop:=if ah.length=1 then Ux (gN ah 0)≤b∧b≤Uy (gN ah 0)else 128≤b∧b≤191
instance (ah:List Nat)(b:Nat):Decidable (Eo ah b):=by unfold Eo;exact inferInstance
structure aJ where
 ah:List Nat
 out:List Int
def Yb (m:aJ):aJ:=if m.ah.length=0 then m else⟨[],m.out++[65533]⟩
def Ll (m:aJ)(b:Nat):aJ:=
 if m.ah.length=0∧Hk b=0 then⟨m.ah,m.out++[65533]⟩
 else if(m.ah++[b]).length=Hk (gN (m.ah++[b]) 0)then⟨[],m.out++[(J9 (m.ah++[b]):Int)]⟩else⟨m.ah++[b],m.out⟩
def Kw (m:aJ)(b:Nat):aJ:=Ll (if m.ah.length≠0∧¬Eo m.ah b then Yb m else m) b
def Ke (l:List Nat)(m:aJ):aJ:=l.foldl Kw m
theorem Sq (m:aJ):Ke [] m=m:=rfl
theorem Db (b:Nat)(l:List Nat)(m:aJ):Ke (b::l) m=Ke l (Kw m b):=rfl
theorem Sr (l k:List Nat)(m:aJ):Ke (l++k) m=Ke k (Ke l m):=by unfold Ke;rw[List.foldl_append]
theorem nH (l:List Nat)(b:Nat)(m:aJ):Ke (l++[b]) m=Kw (Ke l m) b:=by rw[Sr];rfl
def aI:List Nat→Prop
 |[]=>True
 |[a]=>2≤Hk a
 |[a,b]=>3≤Hk a∧Eo [a] b
 |[a,b,c]=>4≤Hk a∧Eo [a] b∧Eo [a,b] c
 |_=>False
theorem J2r (b:Nat):Hk b≤4:=by unfold Hk;split<;>(try split)<;>(try split)<;>(try split)<;>omega
theorem wh1:Hk b=1↔b<128:=by unfold Hk;split<;>(try split)<;>(try split)<;>(try split)<;>omega
theorem wh2:Hk b=2↔194≤b∧b≤223:=by unfold Hk;split<;>(try split)<;>(try split)<;>(try split)<;>omega
theorem wh3:Hk b=3↔224≤b∧b≤239:=by unfold Hk;split<;>(try split)<;>(try split)<;>(try split)<;>omega
theorem wh4:Hk b=4↔240≤b∧b≤244:=by unfold Hk;split<;>(try split)<;>(try split)<;>(try split)<;>omega
theorem fM {a b:Nat}:Eo [a] b↔Ux a≤b∧b≤Uy a:=by unfold Eo;rw[if_pos (show [a].length=1 from rfl)];rfl
theorem rA {a b c:Nat}:Eo [a,b] c↔128≤c∧c≤191:=by unfold Eo;rw[if_neg (by simp)]
theorem J5p {a b c d:Nat}:Eo [a,b,c] d↔128≤d∧d≤191:=by unfold Eo;rw[if_neg (by simp)]
theorem Vq (a:Nat):128≤Ux a∧Ux a≤Uy a∧Uy a≤191:=by
 exact I45
theorem J3i:Ux 224=160:=rfl
theorem J3h:Uy 237=159:=rfl
theorem J3g:Ux 240=144:=rfl
theorem J3f:Uy 244=143:=rfl
theorem J2b {a:Nat}(h:Hk a=1):Df a∧[a]=Gz a:=by
 have:=wh1.1 h;exact⟨⟨by omega,by omega,by omega⟩,by unfold Gz;rw[if_pos this]⟩
theorem J6m {a b:Nat}(h:Hk a=2)(hb:Eo [a] b):∃c:Nat,Df c∧[a,b]=Gz c∧128≤c:=by
 obtain⟨h1,h2⟩:=wh2.1 h;obtain⟨h3,h4⟩:=fM.1 hb;obtain⟨s1,s2,s3⟩:=Vq a;refine⟨(a-192)*64+(b-128),⟨by omega,by omega,by omega⟩,?_,by omega⟩
 unfold Gz;rw[if_neg (by omega),if_pos (by omega)]
 congr 1
 ·omega
 ·congr 1;omega
theorem J6l {a b d:Nat}(h:Hk a=3)(hb:Eo [a] b)(hd:Eo [a,b] d):∃c:Nat,Df c∧[a,b,d]=Gz c∧128≤c:=by
 obtain⟨h1,h2⟩:=wh3.1 h;obtain⟨h3,h4⟩:=fM.1 hb;obtain⟨h5,h6⟩:=rA.1 hd;obtain⟨s1,s2,s3⟩:=Vq a;have WB:a=224→160≤b:=fun e=>by subst e;rw[J3i]at h3;exact h3
 have MZ:a=237→b≤159:=fun e=>by subst e;rw[J3h]at h4;exact h4
 refine⟨(a-224)*4096+(b-128)*64+(d-128),⟨by omega,by omega,by omega⟩,?_,by omega⟩
 unfold Gz;rw[if_neg (by omega),if_neg (by omega),if_pos (by omega)]
 congr 1
 ·omega
 ·congr 1
  ·omega
  ·congr 1;omega
theorem J6k {a b d e:Nat}(h:Hk a=4)(hb:Eo [a] b)(hd:Eo [a,b] d)(he:Eo [a,b,d] e):∃c:Nat,Df c∧[a,b,d,e]=Gz c∧128≤c:=by
 obtain⟨h1,h2⟩:=wh4.1 h;obtain⟨h3,h4⟩:=fM.1 hb;obtain⟨h5,h6⟩:=rA.1 hd;obtain⟨h7,h8⟩:=J5p.1 he;obtain⟨s1,s2,s3⟩:=Vq a;have WB:a=240→144≤b:=fun e=>by subst e;rw[J3g]at h3;exact h3
 have MZ:a=244→b≤143:=fun e=>by subst e;rw[J3f]at h4;exact h4
 refine⟨(a-240)*262144+(b-128)*4096+(d-128)*64+(e-128),⟨by omega,by omega,by omega⟩,?_,by omega⟩
 unfold Gz;rw[if_neg (by omega),if_neg (by omega),if_neg (by omega)]
 congr 1
 ·omega
 ·congr 1
  ·omega
  ·congr 1
   ·omega
   ·congr 1;omega
theorem Jx (out:List Int)(b:Nat):Ll ⟨[],out⟩ b=if Hk b=0 then⟨[],out++[65533]⟩else if Hk b=1 then⟨[],out++[(b:Int)]⟩else⟨[b],out⟩:=by
 unfold Ll;simp only[List.length_nil,true_and,Jk,E3,Nat.zero_add];by_cases h:Hk b=0
 ·rw[if_pos h,if_pos h]
 ·rw[if_neg h,if_neg h]
  have e:gN [b] 0=b:=rfl;rw[e];by_cases h1:Hk b=1
  ·rw[if_pos h1.symm,if_pos h1]
   obtain⟨k1,k2⟩:=J2b h1;have:=Wv k1 [];rw[List.append_nil,←k2]at this;rw[this]
  ·rw[if_neg (fun h2=>h1 h2.symm),if_neg h1]
theorem Kn (out:List Int)(b:Nat):Kw ⟨[],out⟩ b=Ll ⟨[],out⟩ b:=by unfold Kw;rw[if_neg (by simp)]
theorem Py (out:List Int)(h0:ah≠[])(h:¬Eo ah b):Kw ⟨ah,out⟩ b=Ll ⟨[],out++[65533]⟩ b:=by
 have hl:ah.length≠0:=fun e=>h0 (List.length_eq_zero_iff.1 e)
 unfold Kw Yb;rw[if_pos ⟨hl,h⟩];simp only;rw[if_neg hl]
theorem Ky (out:List Int)(h0:ah≠[])(h:Eo ah b):Kw ⟨ah,out⟩ b=if(ah++[b]).length=Hk (gN (ah++[b]) 0)then⟨[],out++[(J9 (ah++[b]):Int)]⟩else⟨ah++[b],out⟩:=by
 have hl:ah.length≠0:=fun e=>h0 (List.length_eq_zero_iff.1 e)
 unfold Kw;rw[if_neg (fun hh=>hh.2 h)]
 unfold Ll;rw[if_neg (fun hh=>hl hh.1)]
theorem zC (ah:List Nat)(out:List Int)(b:Nat):Kw ⟨ah,out⟩ b=⟨(Kw ⟨ah,[]⟩ b).ah,out++(Kw ⟨ah,[]⟩ b).out⟩:=by
 have hz:∀o,Ll ⟨[],o⟩ b=⟨(Ll ⟨[],[]⟩ b).ah,o++(Ll ⟨[],[]⟩ b).out⟩:=fun o=>by
  rw[Jx,Jx];split
  ·simp
  ·split<;>simp
 by_cases h0:ah=[]
 ·subst h0
  rw[Kn,Kn];exact hz out
 ·by_cases h:Eo ah b
  ·rw[Ky _ h0 h,Ky _ h0 h]
   split<;>simp
  ·rw[Py _ h0 h,Py _ h0 h,hz,hz ([]++[65533])]
   simp
theorem Sb:∀(l:List Nat) (ah:List Nat) (out:List Int),Ke l ⟨ah,out⟩=⟨(Ke l ⟨ah,[]⟩).ah,out++(Ke l ⟨ah,[]⟩).out⟩
 |[],ah,out=>by simp[Sq]
 |b::l,ah,out=>by
  rw[Db,Db,zC,Sb l];have h2:=Sb l (Kw ⟨ah,[]⟩ b).ah (Kw ⟨ah,[]⟩ b).out;have e:(⟨(Kw ⟨ah,[]⟩ b).ah,(Kw ⟨ah,[]⟩ b).out⟩:aJ)=Kw ⟨ah,[]⟩ b:=rfl;rw[e]at h2;rw[h2];simp
theorem J2x (hp:aI ah):aI (Kw ⟨ah,[]⟩ b).ah∧(∀c∈(Kw ⟨ah,[]⟩ b).out,Df c)∧(Kw ⟨ah,[]⟩ b).out.length+min 1 (Kw ⟨ah,[]⟩ b).ah.length≤min 1 ah.length+1:=by
 have BK:Df 65533:=by decide
 have hz:∀o:List Int,(∀c∈o,Df c)→aI (Ll ⟨[],o⟩ b).ah∧(∀c∈(Ll ⟨[],o⟩ b).out,Df c)∧(Ll ⟨[],o⟩ b).out.length+min 1 (Ll ⟨[],o⟩ b).ah.length≤o.length+1:=fun o ho=>by
  rw[Jx];split
  ·refine⟨trivial,fun c hc=>?_,by simp⟩
   rcases D3.1 hc with hc|hc
   ·exact ho c hc
   ·obtain rfl:=Cw.1 hc;exact BK
  ·split
   ·rename_i h0 h1
    refine⟨trivial,fun c hc=>?_,by simp⟩
    rcases D3.1 hc with hc|hc
    ·exact ho c hc
    ·obtain rfl:=Cw.1 hc;exact(J2b h1).1
   ·rename_i h0 h1
    exact⟨show 2≤Hk b by omega,ho,by simp⟩
 by_cases h0:ah=[]
 ·subst h0
  rw[Kn];have:=hz [] (by simp)
  simpa using this
 ·by_cases h:Eo ah b
  ·rw[Ky _ h0 h]
   match ah,hp,h,h0 with
   |[a],hp,h,_=>
    have e:gN ([a]++[b]) 0=a:=rfl;rw[e];by_cases hw:Hk a=2
    ·rw[if_pos (by rw[hw];rfl)]
     obtain⟨c,k1,k2,_⟩:=J6m hw h;exact I19
    ·rw[if_neg (by simp;omega)]
     exact⟨⟨by have:2≤Hk a:=hp;omega,h⟩,by simp,by simp⟩
   |[a,d],hp,h,_=>
    have e:gN ([a,d]++[b]) 0=a:=rfl;rw[e];obtain⟨p1,p2⟩:=hp;by_cases hw:Hk a=3
    ·rw[if_pos (by rw[hw];rfl)]
     obtain⟨c,k1,k2,_⟩:=J6l hw p2 h;exact I19
    ·rw[if_neg (by simp;omega)]
     exact⟨⟨by omega,p2,h⟩,by simp,by simp⟩
   |[a,d,f],hp,h,_=>
    have e:gN ([a,d,f]++[b]) 0=a:=rfl;rw[e];obtain⟨p1,p2,p3⟩:=hp;have hw:Hk a=4:=by have:=J2r a;omega
    rw[if_pos (by rw[hw];rfl)]
    obtain⟨c,k1,k2,_⟩:=J6k hw p2 p3 h;exact I19
  ·rw[Py _ h0 h]
   obtain⟨k1,k2,k3⟩:=hz ([]++[65533]) (by simpa using BK)
   refine⟨k1,k2,?_⟩
   have hl:0<ah.length:=by cases ah with|nil=>exact absurd rfl h0|cons _ _=>simp
   simp only[Jk,List.length_singleton]at k3;simp only[Jk];omega
theorem kT (hp:aI ah):Ke ah ⟨[],[]⟩=⟨ah,[]⟩:=by
 have h1:∀a,2≤Hk a→Kw ⟨[],[]⟩ a=⟨[a],[]⟩:=fun a h=>by rw[Kn,Jx,if_neg (by omega),if_neg (by omega)]
 have h2:∀a b,3≤Hk a→Eo [a] b→Kw ⟨[a],[]⟩ b=⟨[a,b],[]⟩:=fun a b h hf=>by
  rw[Ky _ (by simp) hf,if_neg];· rfl
  show ¬2=Hk a;omega
 have h3:∀a b c,4≤Hk a→Eo [a,b] c→Kw ⟨[a,b],[]⟩ c=⟨[a,b,c],[]⟩:=fun a b c h hf=>by
  rw[Ky _ (by simp) hf,if_neg];· rfl
  show ¬3=Hk a;omega
 match ah,hp with
 |[],_=>rfl
 |[a],hp=>rw[Db,h1 a hp];rfl
 |[a,b],⟨p1,p2⟩=>rw[Db,h1 a (by omega),Db,h2 a b p1 p2];rfl
 |[a,b,c],⟨p1,p2,p3⟩=>rw[Db,h1 a (by omega),Db,h2 a b (by omega) p2,Db,h3 a b c p1 p3];rfl
theorem V9:∀(l:List Nat) (ah:List Nat),aI ah→aI (Ke l ⟨ah,[]⟩).ah∧(∀c∈(Ke l ⟨ah,[]⟩).out,Df c)∧(Ke l ⟨ah,[]⟩).out.length+min 1 (Ke l ⟨ah,[]⟩).ah.length≤min 1 ah.length+l.length
 |[],ah,h=>⟨h,by simp[Sq],by simp[Sq]⟩
 |b::l,ah,h=>by
  obtain⟨k1,k2,k3⟩:=J2x (b:=b) h;obtain⟨m1,m2,m3⟩:=V9 l _ k1;have e:Ke (b::l) ⟨ah,[]⟩=⟨(Ke l ⟨(Kw ⟨ah,[]⟩ b).ah,[]⟩).ah,(Kw ⟨ah,[]⟩ b).out++(Ke l ⟨(Kw ⟨ah,[]⟩ b).ah,[]⟩).out⟩:=by
   rw[Db];exact Sb l _ _
  rw[e];refine⟨m1,fun c hc=>?_,by simp only[List.length_append,E3];omega⟩
  rcases D3.1 hc with hc|hc
  ·exact k2 c hc
  ·exact m2 c hc
theorem cP:∀(l:List Nat) (ah:List Nat),∃p,ah++l=p++(Ke l ⟨ah,[]⟩).ah
 |[],ah=>⟨[],by simp[Sq]⟩
 |b::l,ah=>by
  have e:(Ke (b::l) ⟨ah,[]⟩).ah=(Ke l ⟨(Kw ⟨ah,[]⟩ b).ah,[]⟩).ah:=by
   rw[Db];have:=Sb l (Kw ⟨ah,[]⟩ b).ah (Kw ⟨ah,[]⟩ b).out;rw[show(⟨(Kw ⟨ah,[]⟩ b).ah,(Kw ⟨ah,[]⟩ b).out⟩:aJ)=Kw ⟨ah,[]⟩ b from rfl]at this
   rw[this]
  have hs:∃p,ah++[b]=p++(Kw ⟨ah,[]⟩ b).ah:=by
   have hz:∀o,∃p,[b]=p++(Ll ⟨[],o⟩ b).ah:=fun o=>by
    rw[Jx];split
    ·exact⟨[b],by simp⟩
    ·split
     ·exact⟨[b],by simp⟩
     ·exact⟨[],by simp⟩
   by_cases h0:ah=[]
   ·subst h0;rw[Kn];exact hz []
   ·by_cases h:Eo ah b
    ·rw[Ky _ h0 h]
     split
     ·exact⟨ah++[b],by simp⟩
     ·exact⟨[],by simp⟩
    ·rw[Py _ h0 h]
     obtain⟨p,hp⟩:=hz ([]++[65533]);exact⟨ah++p,by rw[List.append_assoc,←hp]⟩
  obtain⟨p,hp⟩:=hs;obtain⟨q,hq⟩:=cP l (Kw ⟨ah,[]⟩ b).ah;refine⟨p++q,?_⟩
  rw[e,List.append_assoc,←hq,←List.append_assoc,←hp,List.append_assoc]
  rfl
theorem tL {c:Nat}(h:Df c)(out:List Int):Ke (Gz c) ⟨[],out⟩=⟨[],out++[(c:Int)]⟩:=by
 have hg:=Wv h [];rw[List.append_nil]at hg;obtain⟨h0,h1,h2⟩:=h;unfold Gz at hg ⊢;split
 ·rename_i c1
  rw[Db,Kn,Jx,if_neg (by have:=wh1.2 c1;omega),if_pos (wh1.2 c1)];rfl
 rename_i c1;rw[if_neg c1]at hg;split
 ·rename_i c2
  rw[if_pos c2]at hg;have w1:Hk (192+c/64)=2:=wh2.2 (by omega)
  rw[Db,Kn,Jx,if_neg (by omega),if_neg (by omega),Db,Ky _ (by simp),if_pos]
  ·rw[show([192+c/64]++[128+c%64]:List Nat)=[192+c/64,128+c%64]from rfl,hg];rfl
  ·show 2=Hk (192+c/64);omega
  ·refine fM.2 ?_
   exact I45
 rename_i c2;rw[if_neg c2]at hg;split
 ·rename_i c3
  rw[if_pos c3]at hg;have w1:Hk (224+c/4096)=3:=wh3.2 (by omega)
  rw[Db,Kn,Jx,if_neg (by omega),if_neg (by omega),Db,Ky _ (by simp),if_neg,Db,Ky _ (by simp),if_pos]
  ·rw[show([224+c/4096]++[128+c/64%64]++[128+c%64]:List Nat)=[224+c/4096,128+c/64%64,128+c%64]from rfl,hg];rfl
  ·show 3=Hk (224+c/4096);omega
  ·exact rA.2 (by omega)
  ·show ¬2=Hk (224+c/4096);omega
  ·refine fM.2 ?_
   exact I45
 ·rename_i c3
  rw[if_neg c3]at hg;have w1:Hk (240+c/262144)=4:=wh4.2 (by omega)
  rw[Db,Kn,Jx,if_neg (by omega),if_neg (by omega),Db,Ky _ (by simp),if_neg,Db,Ky _ (by simp),if_neg,Db,Ky _ (by simp),if_pos]
  ·rw[show([240+c/262144]++[128+c/4096%64]++[128+c/64%64]++[128+c%64]:List Nat)=[240+c/262144,128+c/4096%64,128+c/64%64,128+c%64]from rfl,hg];rfl
  ·show 4=Hk (240+c/262144);omega
  ·exact J5p.2 (by omega)
  ·show ¬3=Hk (240+c/262144);omega
  ·exact rA.2 (by omega)
  ·show ¬2=Hk (240+c/262144);omega
  ·refine fM.2 ?_
   exact I45
end
