/-
  Part ZUtfH.
-/
import Derived.Test.YtkaefdmhlmlhbaaGreatZRopeM
import Derived.Laws.Cover4
set_option maxRecDepth 100000
set_option maxHeartbeats 16000000
set_option linter.unusedVariables false
set_option linter.unusedSimpArgs false
namespace Go.Proofs.YtkaefdmhlmlhbaaGreat
open _root_.List renaming length_cons→Da,mem_singleton→Ek
section
variable {ah:List Nat}{b:Nat}
def Nq:Nat→List Nat→List Int
 |0,_=>[]
 |f+1,r=>if r.length=0∨Eg r≠0 then []else(Ex r:Int)::Nq f (r.drop (Eu r))
def M8:Nat→List Nat→Nat
 |0,_=>0
 |f+1,r=>if r.length=0 then 0 else if Eg r≠0 then Eg r else M8 f (r.drop (Eu r))
def Qq:Nat→List Nat→Nat
 |0,_=>0
 |f+1,r=>if r.length=0∨Eg r≠0 then 0 else Eu r+Qq f (r.drop (Eu r))
def M7 (l:List Int):List Nat:=l.flatMap fun c=>Fg c.toNat
theorem rV:M7 []=[]:=rfl
theorem lY (c:Int)(l:List Int):M7 (c::l)=Fg c.toNat++M7 l:=rfl
theorem iR {l:List Int}(h:∀c∈l,El c):∀x∈M7 l,x<256:=by
 intro x hx;unfold M7 at hx;obtain⟨c,hc,hx⟩:=List.mem_flatMap.1 hx;have:=h c hc;exact wE (by have h1:=this.2.1;have h2:=this.1;omega) x hx
theorem pD {c:Int}(h:El c):El (c.toNat:Nat):=by obtain⟨h0,h1⟩:=h;rw[Int.toNat_of_nonneg h0];exact⟨h0,h1⟩
theorem aM:∀(l:List Int) (s:ByteArray),(∀c∈l,El c)→l.foldl (fun r n=>r++Utf8.encode n) s=s++Ef (M7 l)
 |[],s,_=>by
  rw[rV];have:Ef []=ByteArray.empty:=rfl;rw[this];simp
 |c::l,s,h=>by
  rw[List.foldl_cons,aM l _ (fun x hx=>h x (by simp[hx])),lY]
  have hc:=h c (by simp)
  have e:Utf8.encode c=Ef (Fg c.toNat):=by
   have:=lX (pD hc)
   rwa[Int.toNat_of_nonneg hc.1]at this
  rw[e];unfold Ef;rw[ByteArray.append_assoc]
  congr 1
  apply ByteArray.ext
  simp[ByteArray.data_append]
theorem Wt {l:List Int}(h:∀c∈l,El c):runesBytes l=Ef (M7 l):=by
 unfold runesBytes;rw[aM l _ h];simp
def Tv (b:Nat):Nat:=if b=224 then 160 else if b=240 then 144 else 128
def Tw (b:Nat):Nat:=if b=237 then 159 else if b=244 then 143 else 191
def Gt (b:Nat):Nat:=if b<128 then 1 else if 194≤b∧b≤223 then 2 else if 224≤b∧b≤239 then 3 else if 240≤b∧b≤244 then 4 else 0
def Ed (ah:List Nat)(b:Nat):Prop:=if ah.length=1 then Tv (gN ah 0)≤b∧b≤Tw (gN ah 0)else 128≤b∧b≤191
instance (ah:List Nat)(b:Nat):Decidable (Ed ah b):=by unfold Ed;exact inferInstance
structure Yk where
 ah:List Nat
 out:List Int
def Yo (m:Yk):Yk:=if m.ah.length=0 then m else⟨[],m.out++[65533]⟩
def Ke (m:Yk)(b:Nat):Yk:=
 if m.ah.length=0∧Gt b=0 then⟨m.ah,m.out++[65533]⟩
 else if(m.ah++[b]).length=Gt (gN (m.ah++[b]) 0)then⟨[],m.out++[(Ex (m.ah++[b]):Int)]⟩else⟨m.ah++[b],m.out⟩
def Kj (m:Yk)(b:Nat):Yk:=Ke (if m.ah.length≠0∧¬Ed m.ah b then Yo m else m) b
def J2 (l:List Nat)(m:Yk):Yk:=l.foldl Kj m
theorem Rm (m:Yk):J2 [] m=m:=rfl
theorem Cz (b:Nat)(l:List Nat)(m:Yk):J2 (b::l) m=J2 l (Kj m b):=rfl
theorem Rn (l k:List Nat)(m:Yk):J2 (l++k) m=J2 k (J2 l m):=by unfold J2;rw[List.foldl_append]
theorem kD (l:List Nat)(b:Nat)(m:Yk):J2 (l++[b]) m=Kj (J2 l m) b:=by rw[Rn];rfl
def Yj:List Nat→Prop
 |[]=>True
 |[a]=>2≤Gt a
 |[a,b]=>3≤Gt a∧Ed [a] b
 |[a,b,c]=>4≤Gt a∧Ed [a] b∧Ed [a,b] c
 |_=>False
theorem yL (b:Nat):Gt b≤4:=by unfold Gt;split<;>(try split)<;>(try split)<;>(try split)<;>omega
theorem wh1:Gt b=1↔b<128:=by unfold Gt;split<;>(try split)<;>(try split)<;>(try split)<;>omega
theorem wh2:Gt b=2↔194≤b∧b≤223:=by unfold Gt;split<;>(try split)<;>(try split)<;>(try split)<;>omega
theorem wh3:Gt b=3↔224≤b∧b≤239:=by unfold Gt;split<;>(try split)<;>(try split)<;>(try split)<;>omega
theorem wh4:Gt b=4↔240≤b∧b≤244:=by unfold Gt;split<;>(try split)<;>(try split)<;>(try split)<;>omega
theorem cW {a b:Nat}:Ed [a] b↔Tv a≤b∧b≤Tw a:=by unfold Ed;rw[if_pos (show [a].length=1 from rfl)];rfl
theorem nH {a b c:Nat}:Ed [a,b] c↔128≤c∧c≤191:=by unfold Ed;rw[if_neg (by simp)]
theorem J1h {a b c d:Nat}:Ed [a,b,c] d↔128≤d∧d≤191:=by unfold Ed;rw[if_neg (by simp)]
theorem Yq (a:Nat):128≤Tv a∧Tv a≤Tw a∧Tw a≤191:=by
 exact I41
theorem yZ:Tv 224=160:=rfl
theorem yY:Tw 237=159:=rfl
theorem yX:Tv 240=144:=rfl
theorem yW:Tw 244=143:=rfl
theorem xP {a:Nat}(h:Gt a=1):El a∧[a]=Fg a:=by
 have:=wh1.1 h;exact⟨⟨by omega,by omega,by omega⟩,by unfold Fg;rw[if_pos this]⟩
theorem J2c {a b:Nat}(h:Gt a=2)(hb:Ed [a] b):∃c:Nat,El c∧[a,b]=Fg c∧128≤c:=by
 obtain⟨h1,h2⟩:=wh2.1 h;obtain⟨h3,h4⟩:=cW.1 hb;obtain⟨s1,s2,s3⟩:=Yq a;refine⟨(a-192)*64+(b-128),⟨by omega,by omega,by omega⟩,?_,by omega⟩
 exact I99
theorem J2b {a b d:Nat}(h:Gt a=3)(hb:Ed [a] b)(hd:Ed [a,b] d):∃c:Nat,El c∧[a,b,d]=Fg c∧128≤c:=by
 obtain⟨h1,h2⟩:=wh3.1 h;obtain⟨h3,h4⟩:=cW.1 hb;obtain⟨h5,h6⟩:=nH.1 hd;obtain⟨s1,s2,s3⟩:=Yq a;have hlow:a=224→160≤b:=fun e=>by subst e;rw[yZ]at h3;exact h3
 have hhigh:a=237→b≤159:=fun e=>by subst e;rw[yY]at h4;exact h4
 refine⟨(a-224)*4096+(b-128)*64+(d-128),⟨by omega,by omega,by omega⟩,?_,by omega⟩
 exact I61
theorem J2a {a b d e:Nat}(h:Gt a=4)(hb:Ed [a] b)(hd:Ed [a,b] d)(he:Ed [a,b,d] e):∃c:Nat,El c∧[a,b,d,e]=Fg c∧128≤c:=by
 obtain⟨h1,h2⟩:=wh4.1 h;obtain⟨h3,h4⟩:=cW.1 hb;obtain⟨h5,h6⟩:=nH.1 hd;obtain⟨h7,h8⟩:=J1h.1 he;obtain⟨s1,s2,s3⟩:=Yq a;have hlow:a=240→144≤b:=fun e=>by subst e;rw[yX]at h3;exact h3
 have hhigh:a=244→b≤143:=fun e=>by subst e;rw[yW]at h4;exact h4
 refine⟨(a-240)*262144+(b-128)*4096+(d-128)*64+(e-128),⟨by omega,by omega,by omega⟩,?_,by omega⟩
 exact I47
theorem Je (out:List Int)(b:Nat):Ke ⟨[],out⟩ b=if Gt b=0 then⟨[],out++[65533]⟩else if Gt b=1 then⟨[],out++[(b:Int)]⟩else⟨[b],out⟩:=by
 unfold Ke;simp only[List.length_nil,true_and,List.nil_append,Da,Nat.zero_add];by_cases h:Gt b=0
 ·rw[if_pos h,if_pos h]
 ·rw[if_neg h,if_neg h]
  have e:gN [b] 0=b:=rfl;rw[e];by_cases h1:Gt b=1
  ·rw[if_pos h1.symm,if_pos h1]
   obtain⟨k1,k2⟩:=xP h1;have:=V9 k1 [];rw[List.append_nil,←k2]at this;rw[this]
  ·rw[if_neg (fun h2=>h1 h2.symm),if_neg h1]
theorem Jy (out:List Int)(b:Nat):Kj ⟨[],out⟩ b=Ke ⟨[],out⟩ b:=by unfold Kj;rw[if_neg (by simp)]
theorem P6 (out:List Int)(h0:ah≠[])(h:¬Ed ah b):Kj ⟨ah,out⟩ b=Ke ⟨[],out++[65533]⟩ b:=by
 have hl:ah.length≠0:=fun e=>h0 (List.length_eq_zero_iff.1 e)
 unfold Kj Yo;rw[if_pos ⟨hl,h⟩];simp only;rw[if_neg hl]
theorem Kf (out:List Int)(h0:ah≠[])(h:Ed ah b):Kj ⟨ah,out⟩ b=if(ah++[b]).length=Gt (gN (ah++[b]) 0)then⟨[],out++[(Ex (ah++[b]):Int)]⟩else⟨ah++[b],out⟩:=by
 have hl:ah.length≠0:=fun e=>h0 (List.length_eq_zero_iff.1 e)
 unfold Kj;rw[if_neg (fun hh=>hh.2 h)]
 unfold Ke;rw[if_neg (fun hh=>hl hh.1)]
theorem uQ (ah:List Nat)(out:List Int)(b:Nat):Kj ⟨ah,out⟩ b=⟨(Kj ⟨ah,[]⟩ b).ah,out++(Kj ⟨ah,[]⟩ b).out⟩:=by
 have hz:∀o,Ke ⟨[],o⟩ b=⟨(Ke ⟨[],[]⟩ b).ah,o++(Ke ⟨[],[]⟩ b).out⟩:=fun o=>by
  rw[Je,Je];split
  ·simp
  ·split<;>simp
 by_cases h0:ah=[]
 ·subst h0
  rw[Jy,Jy];exact hz out
 ·by_cases h:Ed ah b
  ·rw[Kf _ h0 h,Kf _ h0 h]
   split<;>simp
  ·rw[P6 _ h0 h,P6 _ h0 h,hz,hz ([]++[65533])]
   simp
theorem U4:∀(l:List Nat) (ah:List Nat) (out:List Int),J2 l ⟨ah,out⟩=⟨(J2 l ⟨ah,[]⟩).ah,out++(J2 l ⟨ah,[]⟩).out⟩
 |[],ah,out=>by simp[Rm]
 |b::l,ah,out=>by
  rw[Cz,Cz,uQ,U4 l];have h2:=U4 l (Kj ⟨ah,[]⟩ b).ah (Kj ⟨ah,[]⟩ b).out;have e:(⟨(Kj ⟨ah,[]⟩ b).ah,(Kj ⟨ah,[]⟩ b).out⟩:Yk)=Kj ⟨ah,[]⟩ b:=rfl;rw[e]at h2;rw[h2];simp
theorem yO (hp:Yj ah):Yj (Kj ⟨ah,[]⟩ b).ah∧(∀c∈(Kj ⟨ah,[]⟩ b).out,El c)∧(Kj ⟨ah,[]⟩ b).out.length+min 1 (Kj ⟨ah,[]⟩ b).ah.length≤min 1 ah.length+1:=by
 have hbad:El 65533:=by decide
 have hz:∀o:List Int,(∀c∈o,El c)→Yj (Ke ⟨[],o⟩ b).ah∧(∀c∈(Ke ⟨[],o⟩ b).out,El c)∧(Ke ⟨[],o⟩ b).out.length+min 1 (Ke ⟨[],o⟩ b).ah.length≤o.length+1:=fun o ho=>by
  rw[Je];split
  ·refine⟨trivial,fun c hc=>?_,by simp⟩
   rcases List.mem_append.1 hc with hc|hc
   ·exact ho c hc
   ·obtain rfl:=Ek.1 hc;exact hbad
  ·split
   ·rename_i h0 h1
    refine⟨trivial,fun c hc=>?_,by simp⟩
    rcases List.mem_append.1 hc with hc|hc
    ·exact ho c hc
    ·obtain rfl:=Ek.1 hc;exact(xP h1).1
   ·rename_i h0 h1
    exact⟨show 2≤Gt b by omega,ho,by simp⟩
 by_cases h0:ah=[]
 ·subst h0
  rw[Jy];have:=hz [] (by simp)
  simpa using this
 ·by_cases h:Ed ah b
  ·rw[Kf _ h0 h]
   match ah,hp,h,h0 with
   |[a],hp,h,_=>
    have e:gN ([a]++[b]) 0=a:=rfl;rw[e];by_cases hw:Gt a=2
    ·rw[if_pos (by rw[hw];rfl)]
     obtain⟨c,k1,k2,_⟩:=J2c hw h;exact I19
    ·rw[if_neg (by simp;omega)]
     exact⟨⟨by have:2≤Gt a:=hp;omega,h⟩,by simp,by simp⟩
   |[a,d],hp,h,_=>
    have e:gN ([a,d]++[b]) 0=a:=rfl;rw[e];obtain⟨p1,p2⟩:=hp;by_cases hw:Gt a=3
    ·rw[if_pos (by rw[hw];rfl)]
     obtain⟨c,k1,k2,_⟩:=J2b hw p2 h;exact I19
    ·rw[if_neg (by simp;omega)]
     exact⟨⟨by omega,p2,h⟩,by simp,by simp⟩
   |[a,d,f],hp,h,_=>
    have e:gN ([a,d,f]++[b]) 0=a:=rfl;rw[e];obtain⟨p1,p2,p3⟩:=hp;have hw:Gt a=4:=by have:=yL a;omega
    rw[if_pos (by rw[hw];rfl)]
    obtain⟨c,k1,k2,_⟩:=J2a hw p2 p3 h;exact I19
  ·rw[P6 _ h0 h]
   obtain⟨k1,k2,k3⟩:=hz ([]++[65533]) (by simpa using hbad)
   refine⟨k1,k2,?_⟩
   have hl:0<ah.length:=by cases ah with|nil=>exact absurd rfl h0|cons _ _=>simp
   simp only[List.nil_append,List.length_singleton]at k3;simp only[List.nil_append];omega
theorem gZ (hp:Yj ah):J2 ah ⟨[],[]⟩=⟨ah,[]⟩:=by
 have h1:∀a,2≤Gt a→Kj ⟨[],[]⟩ a=⟨[a],[]⟩:=fun a h=>by rw[Jy,Je,if_neg (by omega),if_neg (by omega)]
 have h2:∀a b,3≤Gt a→Ed [a] b→Kj ⟨[a],[]⟩ b=⟨[a,b],[]⟩:=fun a b h hf=>by
  rw[Kf _ (by simp) hf,if_neg];· rfl
  show ¬2=Gt a;omega
 have h3:∀a b c,4≤Gt a→Ed [a,b] c→Kj ⟨[a,b],[]⟩ c=⟨[a,b,c],[]⟩:=fun a b c h hf=>by
  rw[Kf _ (by simp) hf,if_neg];· rfl
  show ¬3=Gt a;omega
 match ah,hp with
 |[],_=>rfl
 |[a],hp=>rw[Cz,h1 a hp];rfl
 |[a,b],⟨p1,p2⟩=>rw[Cz,h1 a (by omega),Cz,h2 a b p1 p2];rfl
 |[a,b,c],⟨p1,p2,p3⟩=>rw[Cz,h1 a (by omega),Cz,h2 a b (by omega) p2,Cz,h3 a b c p1 p3];rfl
theorem U3:∀(l:List Nat) (ah:List Nat),Yj ah→Yj (J2 l ⟨ah,[]⟩).ah∧(∀c∈(J2 l ⟨ah,[]⟩).out,El c)∧(J2 l ⟨ah,[]⟩).out.length+min 1 (J2 l ⟨ah,[]⟩).ah.length≤min 1 ah.length+l.length
 |[],ah,h=>⟨h,by simp[Rm],by simp[Rm]⟩
 |b::l,ah,h=>by
  obtain⟨k1,k2,k3⟩:=yO (b:=b) h;obtain⟨m1,m2,m3⟩:=U3 l _ k1;have e:J2 (b::l) ⟨ah,[]⟩=⟨(J2 l ⟨(Kj ⟨ah,[]⟩ b).ah,[]⟩).ah,(Kj ⟨ah,[]⟩ b).out++(J2 l ⟨(Kj ⟨ah,[]⟩ b).ah,[]⟩).out⟩:=by
   rw[Cz];exact U4 l _ _
  rw[e];refine⟨m1,fun c hc=>?_,by simp only[List.length_append,Da];omega⟩
  rcases List.mem_append.1 hc with hc|hc
  ·exact k2 c hc
  ·exact m2 c hc
theorem aN:∀(l:List Nat) (ah:List Nat),∃p,ah++l=p++(J2 l ⟨ah,[]⟩).ah
 |[],ah=>⟨[],by simp[Rm]⟩
 |b::l,ah=>by
  have e:(J2 (b::l) ⟨ah,[]⟩).ah=(J2 l ⟨(Kj ⟨ah,[]⟩ b).ah,[]⟩).ah:=by
   rw[Cz];have:=U4 l (Kj ⟨ah,[]⟩ b).ah (Kj ⟨ah,[]⟩ b).out;rw[show(⟨(Kj ⟨ah,[]⟩ b).ah,(Kj ⟨ah,[]⟩ b).out⟩:Yk)=Kj ⟨ah,[]⟩ b from rfl]at this
   rw[this]
  have hs:∃p,ah++[b]=p++(Kj ⟨ah,[]⟩ b).ah:=by
   have hz:∀o,∃p,[b]=p++(Ke ⟨[],o⟩ b).ah:=fun o=>by
    rw[Je];split
    ·exact⟨[b],by simp⟩
    ·split
     ·exact⟨[b],by simp⟩
     ·exact⟨[],by simp⟩
   by_cases h0:ah=[]
   ·subst h0;rw[Jy];exact hz []
   ·by_cases h:Ed ah b
    ·rw[Kf _ h0 h]
     split
     ·exact⟨ah++[b],by simp⟩
     ·exact⟨[],by simp⟩
    ·rw[P6 _ h0 h]
     obtain⟨p,hp⟩:=hz ([]++[65533]);exact⟨ah++p,by rw[List.append_assoc,←hp]⟩
  obtain⟨p,hp⟩:=hs;obtain⟨q,hq⟩:=aN l (Kj ⟨ah,[]⟩ b).ah;refine⟨p++q,?_⟩
  rw[e,List.append_assoc,←hq,←List.append_assoc,←hp,List.append_assoc]
  rfl
theorem aO {c:Nat}(h:El c)(out:List Int):J2 (Fg c) ⟨[],out⟩=⟨[],out++[(c:Int)]⟩:=by
 have hg:=V9 h [];rw[List.append_nil]at hg;obtain⟨h0,h1,h2⟩:=h;unfold Fg at hg ⊢;split
 ·rename_i c1
  rw[Cz,Jy,Je,if_neg (by have:=wh1.2 c1;omega),if_pos (wh1.2 c1)];rfl
 rename_i c1;rw[if_neg c1]at hg;split
 ·rename_i c2
  rw[if_pos c2]at hg;have w1:Gt (192+c/64)=2:=wh2.2 (by omega)
  rw[Cz,Jy,Je,if_neg (by omega),if_neg (by omega),Cz,Kf _ (by simp),if_pos]
  ·rw[show([192+c/64]++[128+c%64]:List Nat)=[192+c/64,128+c%64]from rfl,hg];rfl
  ·show 2=Gt (192+c/64);omega
  ·refine cW.2 ?_
   exact I41
 rename_i c2;rw[if_neg c2]at hg;split
 ·rename_i c3
  rw[if_pos c3]at hg;have w1:Gt (224+c/4096)=3:=wh3.2 (by omega)
  rw[Cz,Jy,Je,if_neg (by omega),if_neg (by omega),Cz,Kf _ (by simp),if_neg,Cz,Kf _ (by simp),if_pos]
  ·rw[show([224+c/4096]++[128+c/64%64]++[128+c%64]:List Nat)=[224+c/4096,128+c/64%64,128+c%64]from rfl,hg];rfl
  ·show 3=Gt (224+c/4096);omega
  ·exact nH.2 (by omega)
  ·show ¬2=Gt (224+c/4096);omega
  ·refine cW.2 ?_
   exact I41
 ·rename_i c3
  rw[if_neg c3]at hg;have w1:Gt (240+c/262144)=4:=wh4.2 (by omega)
  rw[Cz,Jy,Je,if_neg (by omega),if_neg (by omega),Cz,Kf _ (by simp),if_neg,Cz,Kf _ (by simp),if_neg,Cz,Kf _ (by simp),if_pos]
  ·rw[show([240+c/262144]++[128+c/4096%64]++[128+c/64%64]++[128+c%64]:List Nat)=[240+c/262144,128+c/4096%64,128+c/64%64,128+c%64]from rfl,hg];rfl
  ·show 4=Gt (240+c/262144);omega
  ·exact J1h.2 (by omega)
  ·show ¬3=Gt (240+c/262144);omega
  ·exact nH.2 (by omega)
  ·show ¬2=Gt (240+c/262144);omega
  ·refine cW.2 ?_
   exact I41
end
