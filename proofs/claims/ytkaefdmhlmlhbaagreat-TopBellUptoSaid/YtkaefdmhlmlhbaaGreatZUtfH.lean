/-
  Part of the proof: ZUtfH.
-/
import Derived.Test.YtkaefdmhlmlhbaaGreatZRopeM
import Derived.Laws.Cover4
set_option maxRecDepth 100000
set_option maxHeartbeats 16000000
set_option linter.unusedVariables false
set_option linter.unusedSimpArgs false
namespace Go.Proofs.YtkaefdmhlmlhbaaGreat
open _root_.List renaming append_assoc→Z4l,mem_singleton→F1,nil_append→Hq
def Z4e:Nat→List Nat→List Int
 |0,_=>[]
 |f+1,r=>if r.length=0∨H8 r≠0 then []else(Hb r:Int)::Z4e f (r.drop (Ka r))
def Z4d:Nat→List Nat→Nat
 |0,_=>0
 |f+1,r=>if r.length=0 then 0 else if H8 r≠0 then H8 r else Z4d f (r.drop (Ka r))
def Z4f:Nat→List Nat→Nat
 |0,_=>0
 |f+1,r=>if r.length=0∨H8 r≠0 then 0 else Ka r+Z4f f (r.drop (Ka r))
def T5 (b:Nat):Nat:=if b=224 then 160 else if b=240 then 144 else 128
def T6 (b:Nat):Nat:=if b=237 then 159 else if b=244 then 143 else 191
def J7 (b:Nat):Nat:=if b<128 then 1 else if 194≤b∧b≤223 then 2 else if 224≤b∧b≤239 then 3 else if 240≤b∧b≤244 then 4 else 0
def Ea (ah:List Nat)(b:Nat):Prop:=if ah.length=1 then T5 (gN ah 0)≤b∧b≤T6 (gN ah 0)else 128≤b∧b≤191
instance (ah:List Nat)(b:Nat):Decidable (Ea ah b):=by unfold Ea;exact inferInstance
structure Xp where
 ah:List Nat
 out:List Int
def Xw (m:Xp):Xp:=if m.ah.length=0 then m else⟨[],m.out++[65533]⟩
def Js (m:Xp)(b:Nat):Xp:=
 if m.ah.length=0∧J7 b=0 then⟨m.ah,m.out++[65533]⟩
 else if(m.ah++[b]).length=J7 (gN (m.ah++[b]) 0)then⟨[],m.out++[(Hb (m.ah++[b]):Int)]⟩else⟨m.ah++[b],m.out⟩
def Jw (m:Xp)(b:Nat):Xp:=Js (if m.ah.length≠0∧¬Ea m.ah b then Xw m else m) b
def Jr (l:List Nat)(m:Xp):Xp:=l.foldl Jw m
theorem Qt (m:Xp):Jr [] m=m:=rfl
theorem Fq (b:Nat)(l:List Nat)(m:Xp):Jr (b::l) m=Jr l (Jw m b):=rfl
theorem U7 (l k:List Nat)(m:Xp):Jr (l++k) m=Jr k (Jr l m):=by unfold Jr;rw[List.foldl_append]
theorem J7g (l:List Nat)(b:Nat)(m:Xp):Jr (l++[b]) m=Jw (Jr l m) b:=by rw[U7];rfl
def Xo:List Nat→Prop
 |[]=>True
 |[a]=>2≤J7 a
 |[a,b]=>3≤J7 a∧Ea [a] b
 |[a,b,c]=>4≤J7 a∧Ea [a] b∧Ea [a,b] c
 |_=>False
theorem Q9l (b:Nat):J7 b≤4:=by unfold J7;split<;>(try split)<;>(try split)<;>(try split)<;>omega
theorem wh1 {b:Nat}:J7 b=1↔b<128:=by unfold J7;split<;>(try split)<;>(try split)<;>(try split)<;>omega
theorem wh2 {b:Nat}:J7 b=2↔194≤b∧b≤223:=by unfold J7;split<;>(try split)<;>(try split)<;>(try split)<;>omega
theorem wh3 {b:Nat}:J7 b=3↔224≤b∧b≤239:=by unfold J7;split<;>(try split)<;>(try split)<;>(try split)<;>omega
theorem wh4 {b:Nat}:J7 b=4↔240≤b∧b≤244:=by unfold J7;split<;>(try split)<;>(try split)<;>(try split)<;>omega
theorem Q5i {a b:Nat}:Ea [a] b↔T5 a≤b∧b≤T6 a:=by unfold Ea;rw[if_pos (show [a].length=1 from rfl)];rfl
theorem Q9d {a b c:Nat}:Ea [a,b] c↔128≤c∧c≤191:=by unfold Ea;rw[if_neg (by simp)]
theorem Z3m {a b c d:Nat}:Ea [a,b,c] d↔128≤d∧d≤191:=by unfold Ea;rw[if_neg (by simp)]
theorem Xy (a:Nat):128≤T5 a∧T5 a≤T6 a∧T6 a≤191:=by
 exact I117
theorem Z0a:T5 224=160:=rfl
theorem Q9z:T6 237=159:=rfl
theorem Q9y:T5 240=144:=rfl
theorem Q9x:T6 244=143:=rfl
theorem Q8t {a:Nat}(h:J7 a=1):Jm a∧[a]=Mu a:=by
 have:=wh1.1 h;exact⟨⟨by omega,by omega,by omega⟩,by unfold Mu;rw[if_pos this]⟩
theorem Z3a {a b:Nat}(h:J7 a=2)(hb:Ea [a] b):∃c:Nat,Jm c∧[a,b]=Mu c∧128≤c:=by
 obtain⟨h1,h2⟩:=wh2.1 h;obtain⟨h3,h4⟩:=Q5i.1 hb;obtain⟨s1,s2,s3⟩:=Xy a;refine⟨(a-192)*64+(b-128),⟨by omega,by omega,by omega⟩,?_,by omega⟩
 exact I120
theorem Z2z {a b d:Nat}(h:J7 a=3)(hb:Ea [a] b)(hd:Ea [a,b] d):∃c:Nat,Jm c∧[a,b,d]=Mu c∧128≤c:=by
 obtain⟨h1,h2⟩:=wh3.1 h;obtain⟨h3,h4⟩:=Q5i.1 hb;obtain⟨h5,h6⟩:=Q9d.1 hd;obtain⟨s1,s2,s3⟩:=Xy a;have hlow:a=224→160≤b:=fun e=>by subst e;rw[Z0a]at h3;exact h3
 have hhigh:a=237→b≤159:=fun e=>by subst e;rw[Q9z]at h4;exact h4
 refine⟨(a-224)*4096+(b-128)*64+(d-128),⟨by omega,by omega,by omega⟩,?_,by omega⟩
 exact I119
theorem Z2y {a b d e:Nat}(h:J7 a=4)(hb:Ea [a] b)(hd:Ea [a,b] d)(he:Ea [a,b,d] e):∃c:Nat,Jm c∧[a,b,d,e]=Mu c∧128≤c:=by
 obtain⟨h1,h2⟩:=wh4.1 h;obtain⟨h3,h4⟩:=Q5i.1 hb;obtain⟨h5,h6⟩:=Q9d.1 hd;obtain⟨h7,h8⟩:=Z3m.1 he;obtain⟨s1,s2,s3⟩:=Xy a;have hlow:a=240→144≤b:=fun e=>by subst e;rw[Q9y]at h3;exact h3
 have hhigh:a=244→b≤143:=fun e=>by subst e;rw[Q9x]at h4;exact h4
 refine⟨(a-240)*262144+(b-128)*4096+(d-128)*64+(e-128),⟨by omega,by omega,by omega⟩,?_,by omega⟩
 exact I118
theorem Nm (out:List Int)(b:Nat):Js ⟨[],out⟩ b=if J7 b=0 then⟨[],out++[65533]⟩else if J7 b=1 then⟨[],out++[(b:Int)]⟩else⟨[b],out⟩:=by
 unfold Js;simp only[List.length_nil,true_and,Hq,List.length_cons,Nat.zero_add];by_cases h:J7 b=0
 ·rw[if_pos h,if_pos h]
 ·rw[if_neg h,if_neg h]
  have e:gN [b] 0=b:=rfl;rw[e];by_cases h1:J7 b=1
  ·rw[if_pos h1.symm,if_pos h1]
   obtain⟨k1,k2⟩:=Q8t h1;have:=Zw k1 [];rw[List.append_nil,←k2]at this;rw[this]
  ·rw[if_neg (fun h2=>h1 h2.symm),if_neg h1]
theorem Nw (out:List Int)(b:Nat):Jw ⟨[],out⟩ b=Js ⟨[],out⟩ b:=by unfold Jw;rw[if_neg (by simp)]
theorem Nj {ah:List Nat}(out:List Int){b:Nat}(h0:ah≠[])(h:¬Ea ah b):Jw ⟨ah,out⟩ b=Js ⟨[],out++[65533]⟩ b:=by
 have hl:ah.length≠0:=fun e=>h0 (List.length_eq_zero_iff.1 e)
 unfold Jw Xw;rw[if_pos ⟨hl,h⟩];simp only;rw[if_neg hl]
theorem Rj {ah:List Nat}(out:List Int){b:Nat}(h0:ah≠[])(h:Ea ah b):Jw ⟨ah,out⟩ b=if(ah++[b]).length=J7 (gN (ah++[b]) 0)then⟨[],out++[(Hb (ah++[b]):Int)]⟩else⟨ah++[b],out⟩:=by
 have hl:ah.length≠0:=fun e=>h0 (List.length_eq_zero_iff.1 e)
 unfold Jw;rw[if_neg (fun hh=>hh.2 h)]
 unfold Js;rw[if_neg (fun hh=>hl hh.1)]
theorem Q6f (ah:List Nat)(out:List Int)(b:Nat):Jw ⟨ah,out⟩ b=⟨(Jw ⟨ah,[]⟩ b).ah,out++(Jw ⟨ah,[]⟩ b).out⟩:=by
 have hz:∀o,Js ⟨[],o⟩ b=⟨(Js ⟨[],[]⟩ b).ah,o++(Js ⟨[],[]⟩ b).out⟩:=fun o=>by
  rw[Nm,Nm];split
  ·simp
  ·split<;>simp
 by_cases h0:ah=[]
 ·subst h0
  rw[Nw,Nw];exact hz out
 ·by_cases h:Ea ah b
  ·rw[Rj _ h0 h,Rj _ h0 h]
   split<;>simp
  ·rw[Nj _ h0 h,Nj _ h0 h,hz,hz ([]++[65533])]
   simp
theorem Qi:∀(l:List Nat) (ah:List Nat) (out:List Int),Jr l ⟨ah,out⟩=⟨(Jr l ⟨ah,[]⟩).ah,out++(Jr l ⟨ah,[]⟩).out⟩
 |[],ah,out=>by simp[Qt]
 |b::l,ah,out=>by
  rw[Fq,Fq,Q6f,Qi l];have h2:=Qi l (Jw ⟨ah,[]⟩ b).ah (Jw ⟨ah,[]⟩ b).out;have e:(⟨(Jw ⟨ah,[]⟩ b).ah,(Jw ⟨ah,[]⟩ b).out⟩:Xp)=Jw ⟨ah,[]⟩ b:=rfl;rw[e]at h2;rw[h2];simp
theorem Q9p {ah:List Nat}{b:Nat}(hp:Xo ah):Xo (Jw ⟨ah,[]⟩ b).ah∧(∀c∈(Jw ⟨ah,[]⟩ b).out,Jm c)∧(Jw ⟨ah,[]⟩ b).out.length+min 1 (Jw ⟨ah,[]⟩ b).ah.length≤min 1 ah.length+1:=by
 have hbad:Jm 65533:=by decide
 have hz:∀o:List Int,(∀c∈o,Jm c)→Xo (Js ⟨[],o⟩ b).ah∧(∀c∈(Js ⟨[],o⟩ b).out,Jm c)∧(Js ⟨[],o⟩ b).out.length+min 1 (Js ⟨[],o⟩ b).ah.length≤o.length+1:=fun o ho=>by
  rw[Nm];split
  ·refine⟨trivial,fun c hc=>?_,by simp⟩
   rcases List.mem_append.1 hc with hc|hc
   ·exact ho c hc
   ·obtain rfl:=F1.1 hc;exact hbad
  ·split
   ·rename_i h0 h1
    refine⟨trivial,fun c hc=>?_,by simp⟩
    rcases List.mem_append.1 hc with hc|hc
    ·exact ho c hc
    ·obtain rfl:=F1.1 hc;exact(Q8t h1).1
   ·rename_i h0 h1
    exact⟨show 2≤J7 b by omega,ho,by simp⟩
 by_cases h0:ah=[]
 ·subst h0
  rw[Nw];have:=hz [] (by simp)
  simpa using this
 ·by_cases h:Ea ah b
  ·rw[Rj _ h0 h]
   match ah,hp,h,h0 with
   |[a],hp,h,_=>
    have e:gN ([a]++[b]) 0=a:=rfl;rw[e];by_cases hw:J7 a=2
    ·rw[if_pos (by rw[hw];rfl)]
     obtain⟨c,k1,k2,_⟩:=Z3a hw h;exact I18
    ·rw[if_neg (by simp;omega)]
     exact⟨⟨by have:2≤J7 a:=hp;omega,h⟩,by simp,by simp⟩
   |[a,d],hp,h,_=>
    have e:gN ([a,d]++[b]) 0=a:=rfl;rw[e];obtain⟨p1,p2⟩:=hp;by_cases hw:J7 a=3
    ·rw[if_pos (by rw[hw];rfl)]
     obtain⟨c,k1,k2,_⟩:=Z2z hw p2 h;exact I18
    ·rw[if_neg (by simp;omega)]
     exact⟨⟨by omega,p2,h⟩,by simp,by simp⟩
   |[a,d,f],hp,h,_=>
    have e:gN ([a,d,f]++[b]) 0=a:=rfl;rw[e];obtain⟨p1,p2,p3⟩:=hp;have hw:J7 a=4:=by have:=Q9l a;omega
    rw[if_pos (by rw[hw];rfl)]
    obtain⟨c,k1,k2,_⟩:=Z2y hw p2 p3 h;exact I18
  ·rw[Nj _ h0 h]
   obtain⟨k1,k2,k3⟩:=hz ([]++[65533]) (by simpa using hbad)
   refine⟨k1,k2,?_⟩
   have hl:0<ah.length:=by cases ah with|nil=>exact absurd rfl h0|cons _ _=>simp
   simp only[Hq,List.length_singleton]at k3;simp only[Hq];omega
theorem J5c {ah:List Nat}(hp:Xo ah):Jr ah ⟨[],[]⟩=⟨ah,[]⟩:=by
 have h1:∀a,2≤J7 a→Jw ⟨[],[]⟩ a=⟨[a],[]⟩:=fun a h=>by rw[Nw,Nm,if_neg (by omega),if_neg (by omega)]
 have h2:∀a b,3≤J7 a→Ea [a] b→Jw ⟨[a],[]⟩ b=⟨[a,b],[]⟩:=fun a b h hf=>by
  rw[Rj _ (by simp) hf,if_neg];· rfl
  show ¬2=J7 a;omega
 have h3:∀a b c,4≤J7 a→Ea [a,b] c→Jw ⟨[a,b],[]⟩ c=⟨[a,b,c],[]⟩:=fun a b c h hf=>by
  rw[Rj _ (by simp) hf,if_neg];· rfl
  show ¬3=J7 a;omega
 match ah,hp with
 |[],_=>rfl
 |[a],hp=>rw[Fq,h1 a hp];rfl
 |[a,b],⟨p1,p2⟩=>rw[Fq,h1 a (by omega),Fq,h2 a b p1 p2];rfl
 |[a,b,c],⟨p1,p2,p3⟩=>rw[Fq,h1 a (by omega),Fq,h2 a b (by omega) p2,Fq,h3 a b c p1 p3];rfl
theorem Tc:∀(l:List Nat) (ah:List Nat),Xo ah→Xo (Jr l ⟨ah,[]⟩).ah∧(∀c∈(Jr l ⟨ah,[]⟩).out,Jm c)∧(Jr l ⟨ah,[]⟩).out.length+min 1 (Jr l ⟨ah,[]⟩).ah.length≤min 1 ah.length+l.length
 |[],ah,h=>⟨h,by simp[Qt],by simp[Qt]⟩
 |b::l,ah,h=>by
  obtain⟨k1,k2,k3⟩:=Q9p (b:=b) h;obtain⟨m1,m2,m3⟩:=Tc l _ k1;have e:Jr (b::l) ⟨ah,[]⟩=⟨(Jr l ⟨(Jw ⟨ah,[]⟩ b).ah,[]⟩).ah,(Jw ⟨ah,[]⟩ b).out++(Jr l ⟨(Jw ⟨ah,[]⟩ b).ah,[]⟩).out⟩:=by
   rw[Fq];exact Qi l _ _
  rw[e];refine⟨m1,fun c hc=>?_,by simp only[List.length_append,List.length_cons];omega⟩
  rcases List.mem_append.1 hc with hc|hc
  ·exact k2 c hc
  ·exact m2 c hc
theorem Zi:∀(l:List Nat) (ah:List Nat),∃p,ah++l=p++(Jr l ⟨ah,[]⟩).ah
 |[],ah=>⟨[],by simp[Qt]⟩
 |b::l,ah=>by
  have e:(Jr (b::l) ⟨ah,[]⟩).ah=(Jr l ⟨(Jw ⟨ah,[]⟩ b).ah,[]⟩).ah:=by
   rw[Fq];have:=Qi l (Jw ⟨ah,[]⟩ b).ah (Jw ⟨ah,[]⟩ b).out;rw[show(⟨(Jw ⟨ah,[]⟩ b).ah,(Jw ⟨ah,[]⟩ b).out⟩:Xp)=Jw ⟨ah,[]⟩ b from rfl]at this
   rw[this]
  have hs:∃p,ah++[b]=p++(Jw ⟨ah,[]⟩ b).ah:=by
   have hz:∀o,∃p,[b]=p++(Js ⟨[],o⟩ b).ah:=fun o=>by
    rw[Nm];split
    ·exact⟨[b],by simp⟩
    ·split
     ·exact⟨[b],by simp⟩
     ·exact⟨[],by simp⟩
   by_cases h0:ah=[]
   ·subst h0;rw[Nw];exact hz []
   ·by_cases h:Ea ah b
    ·rw[Rj _ h0 h]
     split
     ·exact⟨ah++[b],by simp⟩
     ·exact⟨[],by simp⟩
    ·rw[Nj _ h0 h]
     obtain⟨p,hp⟩:=hz ([]++[65533]);exact⟨ah++p,by rw[Z4l,←hp]⟩
  obtain⟨p,hp⟩:=hs;obtain⟨q,hq⟩:=Zi l (Jw ⟨ah,[]⟩ b).ah;refine⟨p++q,?_⟩
  rw[e,Z4l,←hq,←Z4l,←hp,Z4l]
  rfl
theorem Z4q {c:Nat}(h:Jm c)(out:List Int):Jr (Mu c) ⟨[],out⟩=⟨[],out++[(c:Int)]⟩:=by
 have hg:=Zw h [];rw[List.append_nil]at hg;obtain⟨h0,h1,h2⟩:=h;unfold Mu at hg ⊢;split
 ·rename_i c1
  rw[Fq,Nw,Nm,if_neg (by have:=wh1.2 c1;omega),if_pos (wh1.2 c1)];rfl
 rename_i c1;rw[if_neg c1]at hg;split
 ·rename_i c2
  rw[if_pos c2]at hg;have w1:J7 (192+c/64)=2:=wh2.2 (by omega)
  rw[Fq,Nw,Nm,if_neg (by omega),if_neg (by omega),Fq,Rj _ (by simp),if_pos]
  ·rw[show([192+c/64]++[128+c%64]:List Nat)=[192+c/64,128+c%64]from rfl,hg];rfl
  ·show 2=J7 (192+c/64);omega
  ·refine Q5i.2 ?_
   exact I117
 rename_i c2;rw[if_neg c2]at hg;split
 ·rename_i c3
  rw[if_pos c3]at hg;have w1:J7 (224+c/4096)=3:=wh3.2 (by omega)
  rw[Fq,Nw,Nm,if_neg (by omega),if_neg (by omega),Fq,Rj _ (by simp),if_neg,Fq,Rj _ (by simp),if_pos]
  ·rw[show([224+c/4096]++[128+c/64%64]++[128+c%64]:List Nat)=[224+c/4096,128+c/64%64,128+c%64]from rfl,hg];rfl
  ·show 3=J7 (224+c/4096);omega
  ·exact Q9d.2 (by omega)
  ·show ¬2=J7 (224+c/4096);omega
  ·refine Q5i.2 ?_
   exact I117
 ·rename_i c3
  rw[if_neg c3]at hg;have w1:J7 (240+c/262144)=4:=wh4.2 (by omega)
  rw[Fq,Nw,Nm,if_neg (by omega),if_neg (by omega),Fq,Rj _ (by simp),if_neg,Fq,Rj _ (by simp),if_neg,Fq,Rj _ (by simp),if_pos]
  ·rw[show([240+c/262144]++[128+c/4096%64]++[128+c/64%64]++[128+c%64]:List Nat)=[240+c/262144,128+c/4096%64,128+c/64%64,128+c%64]from rfl,hg];rfl
  ·show 4=J7 (240+c/262144);omega
  ·exact Z3m.2 (by omega)
  ·show ¬3=J7 (240+c/262144);omega
  ·exact Q9d.2 (by omega)
  ·show ¬2=J7 (240+c/262144);omega
  ·refine Q5i.2 ?_
   exact I117
