/-
  Part ZFeedM.
-/
import Derived.Test.YtiahhfglhlgfiaaGreatZBase
import Derived.Laws.Cover4
set_option maxRecDepth 100000
set_option maxHeartbeats 16000000
set_option linter.unusedVariables false
set_option linter.unusedSimpArgs false
namespace Go.Proofs.YtiahhfglhlgfiaaGreat
open _root_.List renaming mem_singleton→Et
section
variable {ah:List Nat}{b:Nat}
def Se (b:Nat):Nat:=if b=224 then 160 else if b=240 then 144 else 128
def Sf (b:Nat):Nat:=if b=237 then 159 else if b=244 then 143 else 191
def Hq (b:Nat):Nat:=if b<128 then 1 else if 194≤b∧b≤223 then 2 else if 224≤b∧b≤239 then 3 else if 240≤b∧b≤244 then 4 else 0
def Dz (ah:List Nat)(b:Nat):Prop:=if ah.length=1 then Se (gN ah 0)≤b∧b≤Sf (gN ah 0)else 128≤b∧b≤191
instance (ah:List Nat)(b:Nat):Decidable (Dz ah b):=by unfold Dz;exact inferInstance
structure Wx where
 ah:List Nat
 out:List Int
def Xa (m:Wx):Wx:=if m.ah.length=0 then m else⟨[],m.out++[65533]⟩
def Jx (m:Wx)(b:Nat):Wx:=
 if m.ah.length=0∧Hq b=0 then⟨m.ah,m.out++[65533]⟩
 else if(m.ah++[b]).length=Hq (gN (m.ah++[b]) 0)then⟨[],m.out++[(Gq (m.ah++[b]):Int)]⟩else⟨m.ah++[b],m.out⟩
def Jm (m:Wx)(b:Nat):Wx:=Jx (if m.ah.length≠0∧¬Dz m.ah b then Xa m else m) b
def Ji (l:List Nat)(m:Wx):Wx:=l.foldl Jm m
theorem Q9 (m:Wx):Ji [] m=m:=rfl
theorem F8 (b:Nat)(l:List Nat)(m:Wx):Ji (b::l) m=Ji l (Jm m b):=rfl
theorem Z0 (l k:List Nat)(m:Wx):Ji (l++k) m=Ji k (Ji l m):=by unfold Ji;rw[List.foldl_append]
theorem gO (l:List Nat)(b:Nat)(m:Wx):Ji (l++[b]) m=Jm (Ji l m) b:=by rw[Z0];rfl
def Ww:List Nat→Prop
 |[]=>True
 |[a]=>2≤Hq a
 |[a,b]=>3≤Hq a∧Dz [a] b
 |[a,b,c]=>4≤Hq a∧Dz [a] b∧Dz [a,b] c
 |_=>False
theorem uD (b:Nat):Hq b≤4:=by unfold Hq;split<;>(try split)<;>(try split)<;>(try split)<;>omega
theorem yZ:Hq b=1↔b<128:=by unfold Hq;split<;>(try split)<;>(try split)<;>(try split)<;>omega
theorem yY:Hq b=2↔194≤b∧b≤223:=by unfold Hq;split<;>(try split)<;>(try split)<;>(try split)<;>omega
theorem yX:Hq b=3↔224≤b∧b≤239:=by unfold Hq;split<;>(try split)<;>(try split)<;>(try split)<;>omega
theorem yW:Hq b=4↔240≤b∧b≤244:=by unfold Hq;split<;>(try split)<;>(try split)<;>(try split)<;>omega
theorem pW {a b:Nat}:Dz [a] b↔Se a≤b∧b≤Sf a:=by unfold Dz;rw[if_pos (show [a].length=1 from rfl)];rfl
theorem tY {a b c:Nat}:Dz [a,b] c↔128≤c∧c≤191:=by unfold Dz;rw[if_neg (by simp)]
theorem yR {a b c d:Nat}:Dz [a,b,c] d↔128≤d∧d≤191:=by unfold Dz;rw[if_neg (by simp)]
theorem Xc (a:Nat):128≤Se a∧Se a≤Sf a∧Sf a≤191:=by
 unfold Se Sf;split<;>(try split)<;>(try split)<;>(try split)<;>omega
theorem uM:Se 224=160:=rfl
theorem uL:Sf 237=159:=rfl
theorem uK:Se 240=144:=rfl
theorem uJ:Sf 244=143:=rfl
theorem tJ {a:Nat}(h:Hq a=1):Jb a∧[a]=M8 a:=by
 have:=yZ.1 h;exact⟨⟨by omega,by omega,by omega⟩,by unfold M8;rw[if_pos this]⟩
theorem xU {a b:Nat}(h:Hq a=2)(hb:Dz [a] b):∃c:Nat,Jb c∧[a,b]=M8 c∧128≤c:=by
 obtain⟨h1,h2⟩:=yY.1 h;obtain⟨h3,h4⟩:=pW.1 hb;obtain⟨s1,s2,s3⟩:=Xc a;refine⟨(a-192)*64+(b-128),⟨by omega,by omega,by omega⟩,?_,by omega⟩
 unfold M8;rw[if_neg (by omega),if_pos (by omega)]
 congr 1
 ·omega
 ·congr 1;omega
theorem xT {a b d:Nat}(h:Hq a=3)(hb:Dz [a] b)(hd:Dz [a,b] d):∃c:Nat,Jb c∧[a,b,d]=M8 c∧128≤c:=by
 obtain⟨h1,h2⟩:=yX.1 h;obtain⟨h3,h4⟩:=pW.1 hb;obtain⟨h5,h6⟩:=tY.1 hd;obtain⟨s1,s2,s3⟩:=Xc a;have hlow:a=224→160≤b:=fun e=>by subst e;rw[uM]at h3;exact h3
 have hhigh:a=237→b≤159:=fun e=>by subst e;rw[uL]at h4;exact h4
 refine⟨(a-224)*4096+(b-128)*64+(d-128),⟨by omega,by omega,by omega⟩,?_,by omega⟩
 unfold M8;rw[if_neg (by omega),if_neg (by omega),if_pos (by omega)]
 congr 1
 ·omega
 ·congr 1
  ·omega
  ·congr 1;omega
theorem xS {a b d e:Nat}(h:Hq a=4)(hb:Dz [a] b)(hd:Dz [a,b] d)(he:Dz [a,b,d] e):∃c:Nat,Jb c∧[a,b,d,e]=M8 c∧128≤c:=by
 obtain⟨h1,h2⟩:=yW.1 h;obtain⟨h3,h4⟩:=pW.1 hb;obtain⟨h5,h6⟩:=tY.1 hd;obtain⟨h7,h8⟩:=yR.1 he;obtain⟨s1,s2,s3⟩:=Xc a;have hlow:a=240→144≤b:=fun e=>by subst e;rw[uK]at h3;exact h3
 have hhigh:a=244→b≤143:=fun e=>by subst e;rw[uJ]at h4;exact h4
 refine⟨(a-240)*262144+(b-128)*4096+(d-128)*64+(e-128),⟨by omega,by omega,by omega⟩,?_,by omega⟩
 unfold M8;rw[if_neg (by omega),if_neg (by omega),if_neg (by omega)]
 congr 1
 ·omega
 ·congr 1
  ·omega
  ·congr 1
   ·omega
   ·congr 1;omega
theorem Mo (out:List Int)(b:Nat):Jx ⟨[],out⟩ b=if Hq b=0 then⟨[],out++[65533]⟩else if Hq b=1 then⟨[],out++[(b:Int)]⟩else⟨[b],out⟩:=by
 unfold Jx;simp only[List.length_nil,true_and,List.nil_append,List.length_cons,Nat.zero_add];by_cases h:Hq b=0
 ·rw[if_pos h,if_pos h]
 ·rw[if_neg h,if_neg h]
  have e:gN [b] 0=b:=rfl;rw[e];by_cases h1:Hq b=1
  ·rw[if_pos h1.symm,if_pos h1]
   obtain⟨k1,k2⟩:=tJ h1;have:=Zc k1 [];rw[List.append_nil,←k2]at this;rw[this]
  ·rw[if_neg (fun h2=>h1 h2.symm),if_neg h1]
theorem Mx (out:List Int)(b:Nat):Jm ⟨[],out⟩ b=Jx ⟨[],out⟩ b:=by unfold Jm;rw[if_neg (by simp)]
theorem Mm (out:List Int)(h0:ah≠[])(h:¬Dz ah b):Jm ⟨ah,out⟩ b=Jx ⟨[],out++[65533]⟩ b:=by
 have hl:ah.length≠0:=fun e=>h0 (List.length_eq_zero_iff.1 e)
 unfold Jm Xa;rw[if_pos ⟨hl,h⟩];simp only;rw[if_neg hl]
theorem Qt (out:List Int)(h0:ah≠[])(h:Dz ah b):Jm ⟨ah,out⟩ b=if(ah++[b]).length=Hq (gN (ah++[b]) 0)then⟨[],out++[(Gq (ah++[b]):Int)]⟩else⟨ah++[b],out⟩:=by
 have hl:ah.length≠0:=fun e=>h0 (List.length_eq_zero_iff.1 e)
 unfold Jm;rw[if_neg (fun hh=>hh.2 h)]
 unfold Jx;rw[if_neg (fun hh=>hl hh.1)]
theorem qT (ah:List Nat)(out:List Int)(b:Nat):Jm ⟨ah,out⟩ b=⟨(Jm ⟨ah,[]⟩ b).ah,out++(Jm ⟨ah,[]⟩ b).out⟩:=by
 have hz:∀o,Jx ⟨[],o⟩ b=⟨(Jx ⟨[],[]⟩ b).ah,o++(Jx ⟨[],[]⟩ b).out⟩:=fun o=>by
  rw[Mo,Mo];split
  ·simp
  ·split<;>simp
 by_cases h0:ah=[]
 ·subst h0
  rw[Mx,Mx];exact hz out
 ·by_cases h:Dz ah b
  ·rw[Qt _ h0 h,Qt _ h0 h]
   split<;>simp
  ·rw[Mm _ h0 h,Mm _ h0 h,hz,hz ([]++[65533])]
   simp
theorem Sq:∀(l:List Nat) (ah:List Nat) (out:List Int),Ji l ⟨ah,out⟩=⟨(Ji l ⟨ah,[]⟩).ah,out++(Ji l ⟨ah,[]⟩).out⟩
 |[],ah,out=>by simp[Q9]
 |b::l,ah,out=>by
  rw[F8,F8,qT,Sq l];have h2:=Sq l (Jm ⟨ah,[]⟩ b).ah (Jm ⟨ah,[]⟩ b).out;have e:(⟨(Jm ⟨ah,[]⟩ b).ah,(Jm ⟨ah,[]⟩ b).out⟩:Wx)=Jm ⟨ah,[]⟩ b:=rfl;rw[e]at h2;rw[h2];simp
theorem uG (hp:Ww ah):Ww (Jm ⟨ah,[]⟩ b).ah∧(∀c∈(Jm ⟨ah,[]⟩ b).out,Jb c)∧(Jm ⟨ah,[]⟩ b).out.length+min 1 (Jm ⟨ah,[]⟩ b).ah.length≤min 1 ah.length+1:=by
 have hbad:Jb 65533:=by decide
 have hz:∀o:List Int,(∀c∈o,Jb c)→Ww (Jx ⟨[],o⟩ b).ah∧(∀c∈(Jx ⟨[],o⟩ b).out,Jb c)∧(Jx ⟨[],o⟩ b).out.length+min 1 (Jx ⟨[],o⟩ b).ah.length≤o.length+1:=fun o ho=>by
  rw[Mo];split
  ·refine⟨trivial,fun c hc=>?_,by simp⟩
   rcases List.mem_append.1 hc with hc|hc
   ·exact ho c hc
   ·obtain rfl:=Et.1 hc;exact hbad
  ·split
   ·rename_i h0 h1
    refine⟨trivial,fun c hc=>?_,by simp⟩
    rcases List.mem_append.1 hc with hc|hc
    ·exact ho c hc
    ·obtain rfl:=Et.1 hc;exact(tJ h1).1
   ·rename_i h0 h1
    exact⟨show 2≤Hq b by omega,ho,by simp⟩
 by_cases h0:ah=[]
 ·subst h0
  rw[Mx];have:=hz [] (by simp)
  simpa using this
 ·by_cases h:Dz ah b
  ·rw[Qt _ h0 h]
   match ah,hp,h,h0 with
   |[a],hp,h,_=>
    have e:gN ([a]++[b]) 0=a:=rfl;rw[e];by_cases hw:Hq a=2
    ·rw[if_pos (by rw[hw];rfl)]
     obtain⟨c,k1,k2,_⟩:=xU hw h;exact I18
    ·rw[if_neg (by simp;omega)]
     exact⟨⟨by have:2≤Hq a:=hp;omega,h⟩,by simp,by simp⟩
   |[a,d],hp,h,_=>
    have e:gN ([a,d]++[b]) 0=a:=rfl;rw[e];obtain⟨p1,p2⟩:=hp;by_cases hw:Hq a=3
    ·rw[if_pos (by rw[hw];rfl)]
     obtain⟨c,k1,k2,_⟩:=xT hw p2 h;exact I18
    ·rw[if_neg (by simp;omega)]
     exact⟨⟨by omega,p2,h⟩,by simp,by simp⟩
   |[a,d,f],hp,h,_=>
    have e:gN ([a,d,f]++[b]) 0=a:=rfl;rw[e];obtain⟨p1,p2,p3⟩:=hp;have hw:Hq a=4:=by have:=uD a;omega
    rw[if_pos (by rw[hw];rfl)]
    obtain⟨c,k1,k2,_⟩:=xS hw p2 p3 h;exact I18
  ·rw[Mm _ h0 h]
   obtain⟨k1,k2,k3⟩:=hz ([]++[65533]) (by simpa using hbad)
   refine⟨k1,k2,?_⟩
   have hl:0<ah.length:=by cases ah with|nil=>exact absurd rfl h0|cons _ _=>simp
   simp only[List.nil_append,List.length_singleton]at k3;simp only[List.nil_append];omega
theorem eK (hp:Ww ah):Ji ah ⟨[],[]⟩=⟨ah,[]⟩:=by
 have h1:∀a,2≤Hq a→Jm ⟨[],[]⟩ a=⟨[a],[]⟩:=fun a h=>by rw[Mx,Mo,if_neg (by omega),if_neg (by omega)]
 have h2:∀a b,3≤Hq a→Dz [a] b→Jm ⟨[a],[]⟩ b=⟨[a,b],[]⟩:=fun a b h hf=>by
  rw[Qt _ (by simp) hf,if_neg];· rfl
  show ¬2=Hq a;omega
 have h3:∀a b c,4≤Hq a→Dz [a,b] c→Jm ⟨[a,b],[]⟩ c=⟨[a,b,c],[]⟩:=fun a b c h hf=>by
  rw[Qt _ (by simp) hf,if_neg];· rfl
  show ¬3=Hq a;omega
 match ah,hp with
 |[],_=>rfl
 |[a],hp=>rw[F8,h1 a hp];rfl
 |[a,b],⟨p1,p2⟩=>rw[F8,h1 a (by omega),F8,h2 a b p1 p2];rfl
 |[a,b,c],⟨p1,p2,p3⟩=>rw[F8,h1 a (by omega),F8,h2 a b (by omega) p2,F8,h3 a b c p1 p3];rfl
theorem Sp:∀(l:List Nat) (ah:List Nat),Ww ah→Ww (Ji l ⟨ah,[]⟩).ah∧(∀c∈(Ji l ⟨ah,[]⟩).out,Jb c)∧(Ji l ⟨ah,[]⟩).out.length+min 1 (Ji l ⟨ah,[]⟩).ah.length≤min 1 ah.length+l.length
 |[],ah,h=>⟨h,by simp[Q9],by simp[Q9]⟩
 |b::l,ah,h=>by
  obtain⟨k1,k2,k3⟩:=uG (b:=b) h;obtain⟨m1,m2,m3⟩:=Sp l _ k1;have e:Ji (b::l) ⟨ah,[]⟩=⟨(Ji l ⟨(Jm ⟨ah,[]⟩ b).ah,[]⟩).ah,(Jm ⟨ah,[]⟩ b).out++(Ji l ⟨(Jm ⟨ah,[]⟩ b).ah,[]⟩).out⟩:=by
   rw[F8];exact Sq l _ _
  rw[e];refine⟨m1,fun c hc=>?_,by simp only[List.length_append,List.length_cons];omega⟩
  rcases List.mem_append.1 hc with hc|hc
  ·exact k2 c hc
  ·exact m2 c hc
theorem Yz:∀(l:List Nat) (ah:List Nat),∃p,ah++l=p++(Ji l ⟨ah,[]⟩).ah
 |[],ah=>⟨[],by simp[Q9]⟩
 |b::l,ah=>by
  have e:(Ji (b::l) ⟨ah,[]⟩).ah=(Ji l ⟨(Jm ⟨ah,[]⟩ b).ah,[]⟩).ah:=by
   rw[F8];have:=Sq l (Jm ⟨ah,[]⟩ b).ah (Jm ⟨ah,[]⟩ b).out;rw[show(⟨(Jm ⟨ah,[]⟩ b).ah,(Jm ⟨ah,[]⟩ b).out⟩:Wx)=Jm ⟨ah,[]⟩ b from rfl]at this
   rw[this]
  have hs:∃p,ah++[b]=p++(Jm ⟨ah,[]⟩ b).ah:=by
   have hz:∀o,∃p,[b]=p++(Jx ⟨[],o⟩ b).ah:=fun o=>by
    rw[Mo];split
    ·exact⟨[b],by simp⟩
    ·split
     ·exact⟨[b],by simp⟩
     ·exact⟨[],by simp⟩
   by_cases h0:ah=[]
   ·subst h0;rw[Mx];exact hz []
   ·by_cases h:Dz ah b
    ·rw[Qt _ h0 h]
     split
     ·exact⟨ah++[b],by simp⟩
     ·exact⟨[],by simp⟩
    ·rw[Mm _ h0 h]
     obtain⟨p,hp⟩:=hz ([]++[65533]);exact⟨ah++p,by rw[List.append_assoc,←hp]⟩
  obtain⟨p,hp⟩:=hs;obtain⟨q,hq⟩:=Yz l (Jm ⟨ah,[]⟩ b).ah;refine⟨p++q,?_⟩
  rw[e,List.append_assoc,←hq,←List.append_assoc,←hp,List.append_assoc]
  rfl
end
