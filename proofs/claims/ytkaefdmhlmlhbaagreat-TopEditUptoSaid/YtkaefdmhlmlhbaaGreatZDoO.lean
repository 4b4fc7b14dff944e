/-
  Part ZDoO.
-/
import Derived.Test.YtkaefdmhlmlhbaaGreatZDoP
set_option maxRecDepth 100000
set_option maxHeartbeats 16000000
set_option linter.unusedVariables false
set_option linter.unusedSimpArgs false
namespace Go.Proofs.YtkaefdmhlmlhbaaGreat
open Go.RowKit
open _root_.Nat renaming lt_succ_self→Br
open Value renaming slice→Ak
open Region renaming wanted→Bs
section
variable {A:Option Addr}{k1 k2 k3 k4 k5 fk fa:Int}{w:World}{rl:Nat→List Int}{cs:Array Value}
structure Dw (w:World)(b:Nat)(cs:Array Value)(m:List Int)(at_ md fk fa:Int)(rl:Nat→List Int)(e:List Ga):Prop where
 size:cs.size=67
 text:∃B q d,cs[34]? = some (.slice B q d)∧Av w b B q d m
 oat:cs[35]? = some (.int .i64 at_)
 regs:∀j,j<27→∃v,cs[36+j]? = some v∧Bk w b v (rl j)
 c63:cs[63]? = some (.int .i64 fk)
 c64:cs[64]? = some (.int .i64 fa)
 c65:cs[65]? = some (.int .i64 md)
 edit:∃v,cs[66]? = some v∧E6 w b v e
 far:∀B q d,cs[34]? = some (.slice B q d)→∀g',(Ak B q d).ownBlock=some g'→(∀j,j<27→∀v,cs[36+j]? = some v→v.ownBlock≠some g')∧∃v,cs[66]? = some v∧E6 w (g'+1) v e
section
variable {w w':World} {b g:Nat} {cs:Array Value} {m:List Int} {at_ md fk fa:Int} {rl:Nat→List Int} {e:List Ga}
theorem Dw.one (h:Dw w b cs m at_ md fk fa rl e):∀k v,34≤k→cs[k]? = some v→v.oneCell'=true:=by
 intro k v hk hv;have hlt:k<67:=by
  exact I114
 by_cases h1:k=34
 ·subst h1;obtain⟨B,q,d,h2,_⟩:=h.text;rw[h2]at hv;injection hv with hv;subst hv;rfl
 ·by_cases h2:k=35
  ·subst h2;rw[h.oat]at hv;injection hv with hv;subst hv;rfl
  ·by_cases h3:k<63
   ·obtain⟨u,hu,C,m,e,rfl,_⟩:=h.regs (k-36) (by omega)
    exact I100
   ·have h4:k=63∨k=64∨k=65∨k=66:=by omega
    rcases h4 with rfl|rfl|rfl|rfl
    ·rw[h.c63]at hv;injection hv with hv;subst hv;rfl
    ·rw[h.c64]at hv;injection hv with hv;subst hv;rfl
    ·rw[h.c65]at hv;injection hv with hv;subst hv;rfl
    ·obtain⟨u,hu,O,k,c,xs,row,rfl,_⟩:=h.edit
     rw[hu]at hv;injection hv with hv;subst hv;rfl
theorem Dw.ext (h:Dw w b cs m at_ md fk fa rl e)(he:An w w'):Dw w' b cs m at_ md fk fa rl e:=
 {
  h with
  text:=let ⟨B,q,d,h1,h2⟩:=h.text;⟨B,q,d,h1,Bd.ext h2 he⟩
  regs:=fun j hj=>let ⟨v,h1,h2⟩:=h.regs j hj;⟨v,h1,h2.ext he⟩
  edit:=let ⟨v,h1,h2⟩:=h.edit;⟨v,h1,h2.ext he⟩
  far:=fun B q d h34 g' hg'=>let ⟨h1,v,h2,h3⟩:=h.far B q d h34 g' hg';⟨h1,v,h2,h3.ext he⟩ }
theorem Bk.grown {v:Value}{l:List Int}(h:Bk w b v l)(hg:w.grownBy w' (some g))(hb:g<b):Bk w' b v l:=
 h.kept hg (fun k hk e=>by injection e with e;have:=(h.blk k hk).1;omega)
theorem Av.grown {B:Option Addr}{q d:Nat}{l:List Int}(h:Av w b B q d l)(hg:w.grownBy w' (some g))(hb:g<b):Av w' b B q d l:=by
 refine Bd.kept h hg ?_
 cases hb:(Ak B q d).ownBlock with
 |none=>exact .inl rfl
 |some k=>exact .inr (fun e=>by injection e with e;have:=(Bd.blk h k hb).1;omega)
theorem E6.grown {v:Value}(h:E6 w b v e)(hg:w.grownBy w' (some g))(hb:g<b):E6 w' b v e:=
 h.kept hg (fun k e=>by injection e with e;omega)
theorem Dw.grown (h:Dw w b cs m at_ md fk fa rl e)(hg:w.grownBy w' (some g))(hb:g<b):Dw w' b cs m at_ md fk fa rl e:=
 {
  h with
  text:=let ⟨B,q,d,h1,h2⟩:=h.text;⟨B,q,d,h1,h2.grown hg hb⟩
  regs:=fun j hj=>let ⟨v,h1,h2⟩:=h.regs j hj;⟨v,h1,h2.grown hg hb⟩
  edit:=let ⟨v,h1,h2⟩:=h.edit;⟨v,h1,h2.grown hg hb⟩
  far:=fun B q d h34 g' hg'=>by
   obtain⟨h1,v,h2,h3⟩:=h.far B q d h34 g' hg';obtain⟨B',q',d',h4,h5⟩:=h.text;rw[h34]at h4;injection h4 with h4;injection h4 with e1 e2 e3;subst e1;subst e2;subst e3;have:=(Bd.blk h5 g' hg').1;exact⟨h1,v,h2,h3.grown hg (by omega)⟩ }
theorem Bw {i k:Nat}{u:Value}(h:i≠k):(cs.setIfInBounds i u)[k]? = cs[k]? := Array.getElem?_setIfInBounds_ne h
theorem Jw {i:Nat}{u:Value}(h:i<cs.size):(cs.setIfInBounds i u)[i]? = some u:=by
 rw[Array.getElem?_setIfInBounds_self,if_pos h]
theorem Dw.setAt (h:Dw w b cs m at_ md fk fa rl e)(x:Int):Dw w b (cs.setIfInBounds 35 (.int .i64 x)) m x md fk fa rl e where
 size:=by simp[h.size]
 text:=by rw[Bw (by omega)];exact h.text
 oat:=Jw (by rw[h.size];omega)
 regs:=fun j hj=>by rw[Bw (by omega)];exact h.regs j hj
 c63:=by rw[Bw (by omega)];exact h.c63
 c64:=by rw[Bw (by omega)];exact h.c64
 c65:=by rw[Bw (by omega)];exact h.c65
 edit:=by rw[Bw (by omega)];exact h.edit
 far:=fun B q d h34 g' hg'=>by
  exact I42
theorem Dw.setMode (h:Dw w b cs m at_ md fk fa rl e)(x:Int):Dw w b (cs.setIfInBounds 65 (.int .i64 x)) m at_ x fk fa rl e where
 size:=by simp[h.size]
 text:=by rw[Bw (by omega)];exact h.text
 oat:=by rw[Bw (by omega)];exact h.oat
 regs:=fun j hj=>by rw[Bw (by omega)];exact h.regs j hj
 c63:=by rw[Bw (by omega)];exact h.c63
 c64:=by rw[Bw (by omega)];exact h.c64
 c65:=Jw (by rw[h.size];omega)
 edit:=by rw[Bw (by omega)];exact h.edit
 far:=fun B q d h34 g' hg'=>by
  exact I42
theorem Dw.setPut (h:Dw w b cs m at_ md fk fa rl e){B:Option Addr}{q d:Nat}{v:Value}{m':List Int}{e':List Ga}(ho:Av w b B q d m')(he:E6 w b v e')(hfr:∀g',(Ak B q d).ownBlock=some g'→(∀j,j<27→∀v,cs[36+j]? = some v→v.ownBlock≠some g')∧E6 w (g'+1) v e'):
 Dw w b ((cs.setIfInBounds 66 v).setIfInBounds 34 (.slice B q d)) m' at_ md fk fa rl e' where
 size:=by simp[h.size]
 text:=⟨B,q,d,Jw (by simp[h.size]),ho⟩
 oat:=by rw[Bw (by omega),Bw (by omega)];exact h.oat
 regs:=fun j hj=>by rw[Bw (by omega),Bw (by omega)];exact h.regs j hj
 c63:=by rw[Bw (by omega),Bw (by omega)];exact h.c63
 c64:=by rw[Bw (by omega),Bw (by omega)];exact h.c64
 c65:=by rw[Bw (by omega),Bw (by omega)];exact h.c65
 edit:=⟨v,by rw[Bw (by omega)];exact Jw (by rw[h.size];omega),he⟩
 far:=fun B' q' d' h34 g' hg'=>by
  rw[Jw (by simp[h.size])]at h34
  injection h34 with h34;injection h34 with e1 e2 e3;subst e1;subst e2;subst e3;obtain⟨h1,h2⟩:=hfr g' hg';exact⟨fun j hj v hv=>by rw[Bw (by omega),Bw (by omega)]at hv;exact h1 j hj v hv,v,by rw[Bw (by omega)];exact Jw (by rw[h.size];omega),h2⟩
theorem Dw.setRegs (h:Dw w b cs m at_ md fk fa rl e){ds:Array Value}{rl':Nat→List Int}(hr:En w b ds rl')(hfr:∀B q d,cs[34]? = some (.slice B q d)→∀g',(Ak B q d).ownBlock=some g'→∀j,j<27→∀v,ds[j]? = some v→v.ownBlock≠some g'):Dw w b (Mm cs 36 ds) m at_ md fk fa rl' e:=by
 have hz:36+ds.size≤cs.size:=by rw[hr.1,h.size];omega
 exact {
  size:=by rw[Rl hz];exact h.size
  text:=by rw[Cy hz,if_pos (by omega)];exact h.text
  oat:=by rw[Cy hz,if_pos (by omega)];exact h.oat
  regs:=fun j hj=>by rw[Cy hz,if_neg (by omega),if_pos (by rw[hr.1];omega),show 36+j-36=j by omega];exact hr.2 j hj
  c63:=by rw[Cy hz,if_neg (by omega),if_neg (by rw[hr.1];omega)];exact h.c63
  c64:=by rw[Cy hz,if_neg (by omega),if_neg (by rw[hr.1];omega)];exact h.c64
  c65:=by rw[Cy hz,if_neg (by omega),if_neg (by rw[hr.1];omega)];exact h.c65
  edit:=by rw[Cy hz,if_neg (by omega),if_neg (by rw[hr.1];omega)];exact h.edit
  far:=fun B q d h34 g' hg'=>by
   rw[Cy hz,if_pos (by omega)]at h34
   obtain⟨_,v,h2,h3⟩:=h.far B q d h34 g' hg';refine⟨fun j hj v hv=>?_,v,by rw[Cy hz,if_neg (by omega),if_neg (by rw[hr.1];omega)];exact h2,h3⟩
   rw[Cy hz,if_neg (by omega),if_pos (by rw[hr.1];omega),show 36+j-36=j by omega]at hv
   exact hfr B q d h34 g' hg' j hj v hv }
theorem P4.out' {n c d:Nat}{A B:Option Addr}{a k1 k2 k3 k4 k5:Int}{rs:Array Value}{l:List Int}(h:P4 w g cs A n c a rs rl k1 k2 k3 k4 k5 fk fa B d)(ho:Av w (g+1) B n d l):Dw w (g+1) cs l a 0 fk fa rl [] where
 size:=h.size
 text:=⟨B,n,d,h.out,ho⟩
 oat:=h.oat
 regs:=h.oregs
 c63:=h.c63
 c64:=h.c64
 c65:=h.c65
 edit:=⟨_,h.c66,E6.nil _ _⟩
 far:=fun B' q' d' h34 g' hg'=>by
  rw[h.out]at h34;injection h34 with h34;injection h34 with e1 e2 e3;subst e1;subst e2;subst e3;exact⟨fun j hj v hv=>h.far j hj v hv g' hg',_,h.c66,E6.nil _ _⟩
end
structure De (w0:World)(g:Nat)(cs0:Array Value)(w:World)(cs:Array Value)(m:List Int)(at_ md fk fa:Int)(rl:Nat→List Int)(e:List Ga):Prop where
 blk:Aq w g 118 cs
 out:Dw w (g+1) cs m at_ md fk fa rl e
 same:∀k,k<34→cs[k]? = cs0[k]?
 grown:w0.grownBy w (some g)
section
variable {w0 w w':World} {g:Nat} {cs0 cs:Array Value} {m:List Int} {at_ md fk fa:Int} {rl:Nat→List Int} {e:List Ga}
theorem De.ext (h:De w0 g cs0 w cs m at_ md fk fa rl e)(he:An w w'):De w0 g cs0 w' cs m at_ md fk fa rl e:=
 ⟨h.blk.ext he,h.out.ext he,h.same,Cx h.grown (Fk he _)⟩
theorem De.cell (h:De w0 g cs0 w cs m at_ md fk fa rl e){k:Nat}{v:Value}(hk:k<34)(hv:cs0[k]? = some v):w.cell? ⟨g,k,none⟩=some v:=by
 rw[h.blk.cell k,h.same k hk];exact hv
theorem De.oat (h:De w0 g cs0 w cs m at_ md fk fa rl e):w.cell? ⟨g,35,none⟩=some (.int .i64 at_):=(h.blk.cell 35).trans h.out.oat
theorem De.mode (h:De w0 g cs0 w cs m at_ md fk fa rl e):w.cell? ⟨g,65,none⟩=some (.int .i64 md):=(h.blk.cell 65).trans h.out.c65
theorem De.text (h:De w0 g cs0 w cs m at_ md fk fa rl e):∃B d,w.cell? ⟨g,34,none⟩=some (.slice B m.length d)∧Av w (g+1) B m.length d m:=by
 obtain⟨B,q,d,h1,h2⟩:=h.out.text;have hq:m.length=q:=h2.ints.len;rw[hq];exact⟨B,d,(h.blk.cell 34).trans h1,h2⟩
theorem De.setAt (h:De w0 g cs0 w cs m at_ md fk fa rl e)(x:Int):De w0 g cs0 (w.setCell ⟨g,35,none⟩ (.int .i64 x)) (cs.setIfInBounds 35 (.int .i64 x)) m x md fk fa rl e:=
 ⟨h.blk.set_ 35 _,(h.out.grown (Fj w ⟨g,35,none⟩ _) (Br g)).setAt x,fun k hk=>by rw[Bw (by omega)];exact h.same k hk,Cx h.grown (Fj w ⟨g,35,none⟩ _)⟩
theorem De.setMode (h:De w0 g cs0 w cs m at_ md fk fa rl e)(x:Int):De w0 g cs0 (w.setCell ⟨g,65,none⟩ (.int .i64 x)) (cs.setIfInBounds 65 (.int .i64 x)) m at_ x fk fa rl e:=
 ⟨h.blk.set_ 65 _,(h.out.grown (Fj w ⟨g,65,none⟩ _) (Br g)).setMode x,fun k hk=>by rw[Bw (by omega)];exact h.same k hk,Cx h.grown (Fj w ⟨g,65,none⟩ _)⟩
theorem De.start {n c d:Nat}{A B:Option Addr}{a k1 k2 k3 k4 k5:Int}{rs:Array Value}{l:List Int}(hb:Aq w g 118 cs)(h:P4 w g cs A n c a rs rl k1 k2 k3 k4 k5 fk fa B d)(ho:Av w (g+1) B n d l):De w g cs w cs l a 0 fk fa rl []:=
 ⟨hb,h.out' ho,fun _ _=>rfl,⟨rfl,rfl,rfl,Nat.le_refl _,fun _ _ _=>rfl⟩⟩
theorem De.put (h:De w0 g cs0 w cs m at_ md fk fa rl e){l x:List Int}(hp:Td w g cs l x w'):∃cs' e',De w0 g cs0 w' cs' x at_ md fk fa rl e'∧Fq l x e':=by
 obtain⟨hg,B,q,b,O,k,z,e',h1,h2,h3,h4,h5⟩:=hp;have hgw:=h.blk.lt;refine⟨_,e',⟨h1,(h.out.grown hg (Br g)).setPut (Bd.lower h2 hgw) (h3.lower hgw) (fun g' hg'=>⟨fun j hj v hv hvg=>by
  obtain⟨v',hv',hr'⟩:=h.out.regs j hj;rw[hv']at hv;injection hv with hv;subst hv;have:=(hr'.blk g' hvg).2;have:=(Bd.blk h2 g' hg').1;omega,h5 g' hg'⟩),fun k hk=>?_,Cx h.grown hg⟩,h4⟩
 rw[Bw (by omega),Bw (by omega)]
 exact h.same k hk
theorem De.done (h:De w0 g cs0 w cs m at_ md fk fa rl e){Ok:Prop}{Post:World→Array Value→Prop}(hp:Post w cs):Cq g w0 Ok Post (.returned (.int .i64 0)) w:=
 ⟨0,cs,rfl,h.grown,fun _=>rfl,fun _=>⟨h.blk,h.out.size,h.out.one,hp⟩⟩
theorem De.fail (h:De w0 g cs0 w cs m at_ md fk fa rl e){Ok:Prop}{Post:World→Array Value→Prop}{x:Int}(hx:x≠0)(ho:¬Ok):Cq g w0 Ok Post (.returned (.int .i64 x)) w:=
 ⟨x,cs,rfl,h.grown,fun h=>absurd h ho,fun h=>absurd h hx⟩
end
theorem An.turned {v0 w w':World}{g:Nat}(h:An v0 w)(hg:w.grownBy w' (some g))(hb:v0.heap.size≤g):An v0 w':=
 ⟨hg.os.trans (Below.os h),hg.tape.trans (Below.tape h),hg.output.trans (Below.output h),Nat.le_trans h.hsize hg.size,fun k hk=>(hg.block k (Nat.lt_of_lt_of_le hk h.hsize) (fun e=>by injection e with e;omega)).trans (Below.block h k hk)⟩
structure Ff (v0 w:World)(g:Nat)(cs:Array Value)(A:Option Addr)(n c a:Nat)(rs:Array Value)(rl:Nat→List Int)(k1 k2 k3 k4 k5 fk fa:Int)(l:List Int):Prop where
 blk:Aq w g 118 cs
 doer:∃B d,P4 w g cs A n c (a:Int) rs rl k1 k2 k3 k4 k5 fk fa B d∧Av w (g+1) B n d l
 ext:An v0 w
 base:v0.heap.size≤g
 regs:Kn v0 rs rl
 line:Bl v0 A n c l
 cap:A=none→c=0
 len:n≤200
 place:a≤n-1
 nums:∀x∈l,(Lit.int .i64 x).wf=true
 cnt:0≤k1∧k1≤999
section
variable {v0 w w':World} {g:Nat} {cs:Array Value} {A:Option Addr} {n c a:Nat} {rs:Array Value} {rl:Nat→List Int} {k1 k2 k3 k4 k5 fk fa:Int} {l:List Int}
theorem Ff.mid (h:Ff v0 w g cs A n c a rs rl k1 k2 k3 k4 k5 fk fa l):De w g cs w cs l a 0 fk fa rl []:=
 let ⟨_,_,h1,h2⟩:=h.doer;De.start h.blk h1 h2
theorem Ff.wext (h:Ff v0 w g cs A n c a rs rl k1 k2 k3 k4 k5 fk fa l)(he:An w w'):Ff v0 w' g cs A n c a rs rl k1 k2 k3 k4 k5 fk fa l:=
 {
  h with
  blk:=h.blk.ext he
  doer:=let ⟨B,d,h1,h2⟩:=h.doer;⟨B,d,{ h1 with oregs:=fun j hj=>let ⟨v,h3,h4⟩:=h1.oregs j hj;⟨v,h3,h4.ext he⟩ },Bd.ext h2 he⟩
  ext:=h.ext.trans he }
theorem Ff.cells (h:Ff v0 w g cs A n c a rs rl k1 k2 k3 k4 k5 fk fa l):cs[0]? = some (.slice A n c)∧cs[1]? = some (.int .i64 (a:Int))∧(∀j,j<27→cs[2+j]? = rs[j]?)∧cs[29]? = some (.int .i64 k1)∧cs[30]? = some (.int .i64 k2)∧cs[31]? = some (.int .i64 k3)∧cs[32]? = some (.int .i64 k4)∧cs[33]? = some (.int .i64 k5):=
 let ⟨_,_,h1,_⟩:=h.doer;⟨h1.text,h1.at_,h1.regs,h1.c29,h1.c30,h1.c31,h1.c32,h1.c33⟩
end
def J1e (rl:Nat→List Int)(k2:Int)(f t:Nat)(x:List Int):Prop:=f<t→∃i m,Fu k2=some (i,m)∧¬Gw rl i m x
def Rg (rl:Nat→List Int)(k2:Int)(f t:Nat)(x:List Int)(rl':Nat→List Int):Prop:=(f=t→rl'=rl)∧(f<t→∃i m,Fu k2=some (i,m)∧¬Gw rl i m x∧rl'=Kv rl i m x)
def Lk (l:List Int)(a:Int)(rl:Nat→List Int)(k2 k3:Int)(f t:Nat)(whole:Bool)(m:List Int)(at_ md:Int)(rl':Nat→List Int)(e:List Ga):Prop:=
 (f=t→k3=99)∧Rg rl k2 f t ((l.drop f).take (t-f)) rl'∧
 (
  (k3=121∧m=l∧md=0∧e=[]∧at_=(if whole=true then a else min (f:Int) a))∨
  (k3≠121∧m=l.take f++l.drop t∧Fq l m e∧((k3=99∧at_=f∧md=1)∨(k3≠99∧md=0∧at_=max 0 (min (f:Int) ((m.length:Int)-1))))))
def Wr (l:List Int)(rl:Nat→List Int)(k2 k3:Int)(f t:Nat):Prop:=(f=t→k3=99)∧J1e rl k2 f t ((l.drop f).take (t-f))
def dH (g:Nat)(l:List Int)(a:Int)(rl:Nat→List Int)(k2 k3 fk fa:Int)(f t:Nat)(whole:Bool)(w:World)(cs:Array Value):Prop:=
 ∃m at_ md rl' e,Dw w (g+1) cs m at_ md fk fa rl' e∧Lk l a rl k2 k3 f t whole m at_ md rl' e
theorem iA {w0 w:World}{g n c f t q d:Nat}{cs0 cs:Array Value}{m l x:List Int}{A T:Option Addr}{at_ md fk fa:Int}{e:List Ga}(h:De w0 g cs0 w cs m at_ md fk fa rl e)(h0:cs0[0]? = some (.slice A n c))(hl:Bl w A n c l)(hx:Bl w T q d x)(hT:T=none→d=0)
 (hft:f≤t) (htn:t≤n) (hn:n≤200) (hm:q≤3000):
 Calls Tryz.prog 116 #[.pointer (some ⟨g,0,none⟩),.int .i64 (f:Int),.int .i64 (t:Int),.slice T q d] w fun en w'=>(∃u,en=.returned u)∧∃cs' e',De w0 g cs0 w' cs' (l.take f++x++l.drop t) at_ md fk fa rl e'∧Fq l (l.take f++x++l.drop t) e':=by
 obtain⟨B,_,_,h34,_⟩:=h.out.text;obtain⟨v66,h66,_⟩:=h.out.edit;exact(V4 h.blk ((h.same 0 (by omega)).trans h0) h34 h66 hl hx hT hft htn hn hm).mono fun en w' ⟨h1,h2⟩=>⟨h1,h.put h2⟩
theorem qZ {w0 w:World}{g n c f t:Nat}{cs0 cs rs:Array Value}{m l:List Int}{at_ md fk fa k2:Int}{rl Wk:Nat→List Int}{e:List Ga}(h:De w0 g cs0 w cs m at_ md fk fa Wk e)(h0:cs0[0]? = some (.slice A n c))(h30:cs0[30]? = some (.int .i64 k2))(hrs:∀j,j<27→cs0[2+j]? = rs[j]?)(hr:Kn w rs rl)(hl:Bl w A n c l)(hA:A=none→c=0)(hft:f≤t)(htn:t≤n)(hn:n≤200):
 Calls Tryz.prog 115 #[.pointer (some ⟨g,0,none⟩),.int .i64 (f:Int),.int .i64 (t:Int)] w fun en w'=>∃x,en=.returned (.int .i64 x)∧w.grownBy w' (some g)∧((∃i m,Fu k2=some (i,m)∧¬Gw rl i m ((l.drop f).take (t-f)))→x=0)∧(x=0→∃cs' rl',De w0 g cs0 w' cs' m at_ md fk fa rl' e∧∃i m,Fu k2=some (i,m)∧¬Gw rl i m ((l.drop f).take (t-f))∧rl'=Kv rl i m ((l.drop f).take (t-f))):=by
 refine(vM h.blk h.out.size ((h.same 0 (by omega)).trans h0) ((h.same 30 (by omega)).trans h30) (fun j hj=>(h.same _ (by omega)).trans (hrs j hj)) hr hl hA hft htn hn).mono ?_
 rintro en w' ⟨x,h1,h2,h3,h4⟩;refine⟨x,h1,h2,h3,fun hx=>?_⟩
 obtain⟨ds,rl',hb,hR,hO⟩:=h4 hx;have hgw:=h.blk.lt;refine⟨_,rl',⟨hb,(h.out.grown h2 (Br g)).setRegs (hR.lower hgw) (fun B q d h34 g' hg' j hj v hv hvg=>by
  obtain⟨v',hv',hr'⟩:=hR.2 j hj;rw[hv']at hv;injection hv with hv;subst hv;have:=(hr'.blk g' hvg).1;obtain⟨B',q',d',h4,h5⟩:=h.out.text;rw[h34]at h4;injection h4 with h4;injection h4 with e1 e2 e3;subst e1;subst e2;subst e3;have:=(Bd.blk h5 g' hg').2;omega),fun k hk=>?_,Cx h.grown h2⟩,hO⟩
 rw[Cy (by rw[hR.1,h.out.size];decide),if_pos (by omega)]
 exact h.same k hk
theorem Qj {v0 w:World}{g n c f t a:Nat}{cs rs:Array Value}{l:List Int}{whole:Bool}(h:Ff v0 w g cs A n c a rs rl k1 k2 k3 k4 k5 fk fa l)(hft:f≤t)(htn:t≤n)(hk3:k3=100∨k3=99∨k3=121):
 Calls Tryz.prog 74 #[.pointer (some ⟨g,0,none⟩),.int .i64 (f:Int),.int .i64 (t:Int),.bool whole] w (Cq g w (Wr l rl k2 k3 f t) (dH g l a rl k2 k3 fk fa f t whole)):=by
 obtain⟨h0,h1,hrs,h29,h30,h31,h32,h33⟩:=h.cells;have HKp:Hid (∀wx,An w wx→Calls Tryz.prog 115 #[.pointer (some ⟨g,0,none⟩),.int .i64 (f:Int),.int .i64 (t:Int)] wx fun en w'=>∃x,en=.returned (.int .i64 x)∧wx.grownBy w' (some g)∧((∃i m,Fu k2=some (i,m)∧¬Gw rl i m ((l.drop f).take (t-f)))→x=0)∧(x=0→∃cs' rl',De w g cs w' cs' l a 0 fk fa rl' []∧∃i m,Fu k2=some (i,m)∧¬Gw rl i m ((l.drop f).take (t-f))∧rl'=Kv rl i m ((l.drop f).take (t-f)))):=A6 fun wx he=>
  qZ (h.mid.ext he) h0 h30 hrs (h.regs.ext (h.ext.trans he)) (h.line.ext (h.ext.trans he)) h.cap hft htn h.len
 have HPt:Hid (∀wx csx m at_ md rlx e,De w g cs wx csx m at_ md fk fa rlx e→Calls Tryz.prog 116 #[.pointer (some ⟨g,0,none⟩),.int .i64 (f:Int),.int .i64 (t:Int),.slice none 0 0] wx fun en w'=>(∃u,en=.returned u)∧∃cs' e',De w g cs w' cs' (l.take f++l.drop t) at_ md fk fa rlx e'∧Fq l (l.take f++l.drop t) e'):=A6 (by
  intro wx csx m at_ md rlx e hm;have h:=iA hm h0 (h.line.ext (h.ext.turned hm.grown h.base)) (Av.ints (Av.nil wx 0)) (fun _=>rfl) hft htn h.len (by omega)
  rw[List.append_nil]at h;exact h)
 have HM:=A6 h.mid;have HC:Hid (cs[1]? = some (.int .i64 (a:Int))∧cs[31]? = some (.int .i64 k3)):=A6 ⟨h1,h31⟩;have HL:Hid (l.length=n∧n≤200):=A6 ⟨h.line.len,h.len⟩;have HN:Hid ((l.take f++l.drop t).length≤200):=A6 (by have:=HL.out;simp;omega)
 have x31:w.cell? ⟨g,31,none⟩=some (.int .i64 k3):=HM.out.cell (by omega) HC.out.2
 have hf1:f≤1000000:=by have:=h.len;omega
 obtain⟨M,hM⟩:∃M,l.take f++l.drop t=M:=⟨_,rfl⟩;rw[hM]at HPt HN;have HMm:=A6 hM;clear h h0 h1 hrs h29 h30 h31 h32 h33 hM;go_enter Tryz.func74,Tryz.ntmps74
 by_cases hfe:f=t
 case pos=>
  subst hfe;by_cases hk:k3=99
  case neg=>
   have hkb:(k3 !=99)=true:=by simp[hk]
   go_wp2_with fail
   go_ret
   exact HM.out.fail (by decide) (fun h=>hk (h.1 rfl))
  case pos=>
   subst hk;go_wp2_with fail
   refine(HPt.out _ _ _ _ _ _ _ HM.out).mono ?_
   rintro en w1 ⟨⟨u,rfl⟩,cs1,e1,hm1,hmk⟩;have HM1:=A6 hm1;have HMK:=A6 hmk;have y31:w1.cell? ⟨g,31,none⟩=some (.int .i64 99):=hm1.cell (by omega) HC.out.2
   have c65:=hm1.mode;have f65:=hm1.blk.frozen 65;have hm2:=hm1.setMode 0;obtain⟨B,d,c34,ho⟩:=hm2.text;have c35:=hm2.oat;have f35:=hm2.blk.frozen 35;clear ho;obtain⟨L,hL⟩:∃L,M.length=L:=⟨_,rfl⟩;have hL2:L≤200:=by rw[←hL];exact HN.out
   have HLL:=A6 hL;rw[hL]at c34;have HM2:=A6 hm2;clear hm1 hmk hm2 hL;go_wp2_with fail
   refine(Vd (f:Int) (L:Int) _ (by omega) (by omega)).mono ?_
   rintro en w2 ⟨rfl,rfl⟩;obtain⟨z,hz⟩:∃z:Int,max 0 (min (f:Int) ((L:Int)-1))=z:=⟨_,rfl⟩;rw[hz];have hm3:=HM2.out.setAt z;have z31:=hm3.cell (k:=31) (by omega) HC.out.2
   have d65:=hm3.mode;have g65:=hm3.blk.frozen 65;have hm4:=hm3.setMode 1;have d35:=hm4.oat;have g35:=hm4.blk.frozen 35;have HM5:=A6 (hm4.setAt (f:Int));have HZ:=A6 hz;clear hm3 hm4 hz HM1 HM2;go_wp2_with fail
   go_ret
   exact HM5.out.done ⟨_,_,_,_,_,HM5.out.out,fun _=>rfl,⟨fun _=>rfl,fun h=>absurd h (by omega)⟩,.inr ⟨by decide,HMm.out.symm,HMK.out,.inl ⟨rfl,rfl,rfl⟩⟩⟩
 case neg=>
  have hlt:f<t:=by omega
  have HT:=A6 hlt;have hx:((f:Int)==(t:Int))=false:=by simp;omega
  go_wp2_with fail
  refine(HKp.out _ (An.refl w)).mono ?_
  rintro en w0 ⟨x,rfl,hg0,hok,hx0⟩;by_cases hxz:x=0
  case neg=>
   have HF:Hid (Cq g w (Wr l rl k2 k3 f t) (dH g l a rl k2 k3 fk fa f t whole) (.returned (.int .i64 x)) w0):=A6 ⟨x,cs,rfl,hg0,fun h=>hok (h.2 HT.out),fun h=>absurd h hxz⟩
   clear hok hx0 hg0;go_wp2_with fail
   go_ret
   exact HF.out
  subst hxz;obtain⟨cs0,Wk,hm0,hrl⟩:=hx0 rfl;have HRL:Hid (Rg rl k2 f t ((l.drop f).take (t-f)) Wk):=A6 ⟨fun h=>absurd h hfe,fun _=>hrl⟩
  have HM0:=A6 hm0;have u31:w0.cell? ⟨g,31,none⟩=some (.int .i64 k3):=hm0.cell (by omega) HC.out.2
  have u1:w0.cell? ⟨g,1,none⟩=some (.int .i64 (a:Int)):=hm0.cell (by omega) HC.out.1
  have u35:=hm0.oat;have v35:=hm0.blk.frozen 35;clear hok hx0 hg0 hm0 hrl HM HKp x31;rcases hk3 with rfl|rfl|rfl
  ·have N0:=trivial;exact K38
  ·have N1:=trivial;exact K38
  ·cases whole
   ·have HM5:=A6 (HM0.out.setAt (min (f:Int) (a:Int)))
    go_wp2_with fail
    all_goals
     go_ret
     exact HM5.out.done ⟨_,_,_,_,_,HM5.out.out,fun h=>absurd h hfe,HRL.out,.inl ⟨rfl,rfl,rfl,rfl,rfl⟩⟩
   ·go_wp2_with fail
    go_ret
    exact HM0.out.done ⟨_,_,_,_,_,HM0.out.out,fun h=>absurd h hfe,HRL.out,.inl ⟨rfl,rfl,rfl,rfl,rfl⟩⟩
def Sc (v:Int):Option (Int×Int):=
 if v=120 then some (100,108)else if v=88 then some (100,104)else if v=115 then some (99,108)else if v=83 then some (99,99)else if v=67 then some (99,36)else if v=68 then some (100,36)else if v=89 then some (121,121)else none
theorem wV (w:World)(t t':TypeId)(cs cs':Array Value):Aq ((w.alloc (.cells cs t)).alloc (.cells cs' t')) (w.heap.size+1) t' cs':=by
 have:=Aq.new (w.alloc (.cells cs t)) t' cs'
 rwa[World.size_alloc]at this
theorem jX {k1 k2 k4 k5:Int}(w:World):Calls Tryz.prog 71 #[.agg #[.int .i64 k1,.int .i64 k2,.int .i64 0,.int .i64 k4,.int .i64 k5]] w fun e w'=>(∃o v b,e=.returned (.tuple #[.agg #[.int .i64 k1,.int .i64 k2,.int .i64 o,.int .i64 v,.int .i64 k5],.bool b])∧((b=true∧Sc k4=some (o,v))∨(b=false∧Sc k4=none∧o=0∧v=k4)))∧An w w':=by
 go_enter Tryz.func71,Tryz.ntmps71
 go_wp2_with fail
 ·have hk:k4=120:=by simpa using ‹(k4==120)=true›
  subst hk;refine bodyPost_ret (v:=.tuple #[.agg #[.int .i64 k1,.int .i64 k2,.int .i64 100,.int .i64 108,.int .i64 k5],.bool true]) ?_ rfl ⟨⟨_,_,_,rfl,.inl ⟨rfl,by decide⟩⟩,(An.alloc _ _).to_alloc _⟩
  exact I8
 ·have hk:k4=88:=by simpa using ‹(k4==88)=true›
  subst hk;refine bodyPost_ret (v:=.tuple #[.agg #[.int .i64 k1,.int .i64 k2,.int .i64 100,.int .i64 104,.int .i64 k5],.bool true]) ?_ rfl ⟨⟨_,_,_,rfl,.inl ⟨rfl,by decide⟩⟩,(An.alloc _ _).to_alloc _⟩
  exact I8
 ·have hk:k4=115:=by simpa using ‹(k4==115)=true›
  subst hk;refine bodyPost_ret (v:=.tuple #[.agg #[.int .i64 k1,.int .i64 k2,.int .i64 99,.int .i64 108,.int .i64 k5],.bool true]) ?_ rfl ⟨⟨_,_,_,rfl,.inl ⟨rfl,by decide⟩⟩,(An.alloc _ _).to_alloc _⟩
  exact I8
 ·have hk:k4=83:=by simpa using ‹(k4==83)=true›
  subst hk;refine bodyPost_ret (v:=.tuple #[.agg #[.int .i64 k1,.int .i64 k2,.int .i64 99,.int .i64 99,.int .i64 k5],.bool true]) ?_ rfl ⟨⟨_,_,_,rfl,.inl ⟨rfl,by decide⟩⟩,(An.alloc _ _).to_alloc _⟩
  exact I8
 ·have hk:k4=67:=by simpa using ‹(k4==67)=true›
  subst hk;refine bodyPost_ret (v:=.tuple #[.agg #[.int .i64 k1,.int .i64 k2,.int .i64 99,.int .i64 36,.int .i64 k5],.bool true]) ?_ rfl ⟨⟨_,_,_,rfl,.inl ⟨rfl,by decide⟩⟩,(An.alloc _ _).to_alloc _⟩
  exact I8
 ·have hk:k4=68:=by simpa using ‹(k4==68)=true›
  subst hk;refine bodyPost_ret (v:=.tuple #[.agg #[.int .i64 k1,.int .i64 k2,.int .i64 100,.int .i64 36,.int .i64 k5],.bool true]) ?_ rfl ⟨⟨_,_,_,rfl,.inl ⟨rfl,by decide⟩⟩,(An.alloc _ _).to_alloc _⟩
  exact I8
 ·have hk:k4=89:=by simpa using ‹(k4==89)=true›
  subst hk;refine bodyPost_ret (v:=.tuple #[.agg #[.int .i64 k1,.int .i64 k2,.int .i64 121,.int .i64 121,.int .i64 k5],.bool true]) ?_ rfl ⟨⟨_,_,_,rfl,.inl ⟨rfl,by decide⟩⟩,(An.alloc _ _).to_alloc _⟩
  exact I8
 ·refine bodyPost_ret (v:=.tuple #[.agg #[.int .i64 k1,.int .i64 k2,.int .i64 0,.int .i64 k4,.int .i64 k5],.bool false]) ?_ rfl ⟨⟨_,_,_,rfl,.inr ⟨rfl,?_,rfl,rfl⟩⟩,(An.alloc _ _).to_alloc _⟩
  ·exact I8
  ·unfold Sc
   simp_all
def Ho (fk fa v arg:Int):Option (Int×Int×Int×Int):=
 if v=102∨v=70∨v=116∨v=84 then some (v,arg,v,arg)
 else if v=59 then(if fk=0 then none else some (fk,fa,fk,fa))
 else if v=44 then(if fk=0 then none else some (bits .xor .i64 fk 32,fa,fk,fa))
 else some (v,arg,fk,fa)
theorem Gm {P:Program}{fn:Func}{p q r:Tmp}{ty ty':TypeId}(h:fn.results=#[.cell p ty,.cell q ty',.tmp r])(tmps:Array Value)(w:World)(g g':Nat)(t t':TypeId)(cs cs':Array Value)(fr fr':Nat×Nat)(d d':TypeDesc)(v:Value)
 (hp:tmps.getD p undef=.pointer (some ⟨g,0,none⟩)) (hq:tmps.getD q undef=.pointer (some ⟨g',0,none⟩)) (hr:tmps.getD r undef=v) (hg:w.heap[g]? = some (.cells cs t fr)) (hg':w.heap[g']? = some (.cells cs' t' fr'))
 (hu:P.underlying ty=some d) (hd:(match d with|.struct _|.array _ _=>true|_=>false)=true) (hi:(P.info? ty).map (·.size)=some cs.size)
 (hu':P.underlying ty'=some d') (hd':(match d' with|.struct _|.array _ _=>true|_=>false)=true) (hi':(P.info? ty').map (·.size)=some cs'.size):
 (results fn tmps).run P w=.ok (.tuple #[.agg cs,.agg cs',v]) w:=by
 have hp':tmps[p]?.getD undef=.pointer (some ⟨g,0,none⟩):=by simpa using hp
 exact I33
theorem Gy {g t:Nat}{a b c:Value}(h:Aq w g t #[a,b,c]):w.cell? ⟨g,0,none⟩=some a∧w.cell? ⟨g,1,none⟩=some b∧w.cell? ⟨g,2,none⟩=some c:=⟨h.cell 0,h.cell 1,h.cell 2⟩
theorem F0:(Tryz.prog.info? 185).map (·.size)=some 3:=by kernel_rfl
theorem Dk:(Tryz.prog.info? 36).map (·.size)=some 2:=by kernel_rfl
theorem cD (w:World)(fk fa k1 k2 k3 k4 k5:Int):∃W,W=(((((w.alloc (.cells #[.int .i64 fk,.int .i64 fa] 36)).alloc (.cells #[.int .i64 k1,.int .i64 k2,.int .i64 k3,.int .i64 k4,.int .i64 k5] 62)).alloc (.cells #[.int .i64 0,.int .i64 0,.int .i64 0] 185)).alloc (.cells #[.int .i64 0,.int .i64 0] 36)).alloc (.cells #[.int .i64 k4,.int .i64 k1,.int .i64 k5] 185))∧An w W∧
 Aq W (w.heap.size) 36 #[.int .i64 fk,.int .i64 fa]∧Aq W (w.heap.size+1) 62 #[.int .i64 k1,.int .i64 k2,.int .i64 k3,.int .i64 k4,.int .i64 k5]∧Aq W (w.heap.size+1+1) 185 #[.int .i64 0,.int .i64 0,.int .i64 0]∧Aq W (w.heap.size+1+1+1) 36 #[.int .i64 0,.int .i64 0]∧Aq W (w.heap.size+1+1+1+1) 185 #[.int .i64 k4,.int .i64 k1,.int .i64 k5]:=by
 have h1:=Aq.new w 36 #[.int .i64 fk,.int .i64 fa];have x1:=An.alloc w (.cells #[.int .i64 fk,.int .i64 fa] 36);have z1:(w.alloc (.cells #[.int .i64 fk,.int .i64 fa] 36)).heap.size=w.heap.size+1:=by simp
 generalize w.alloc (.cells #[.int .i64 fk,.int .i64 fa] 36)=W1 at*;have h2:=Aq.new W1 62 #[.int .i64 k1,.int .i64 k2,.int .i64 k3,.int .i64 k4,.int .i64 k5];have x2:=An.alloc W1 (.cells #[.int .i64 k1,.int .i64 k2,.int .i64 k3,.int .i64 k4,.int .i64 k5] 62);rw[z1]at h2;have z2:(W1.alloc (.cells #[.int .i64 k1,.int .i64 k2,.int .i64 k3,.int .i64 k4,.int .i64 k5] 62)).heap.size=w.heap.size+1+1:=by simp[z1]
 generalize W1.alloc (.cells #[.int .i64 k1,.int .i64 k2,.int .i64 k3,.int .i64 k4,.int .i64 k5] 62)=W2 at*;have h3:=Aq.new W2 185 #[.int .i64 0,.int .i64 0,.int .i64 0];have x3:=An.alloc W2 (.cells #[.int .i64 0,.int .i64 0,.int .i64 0] 185);rw[z2]at h3;have z3:(W2.alloc (.cells #[.int .i64 0,.int .i64 0,.int .i64 0] 185)).heap.size=w.heap.size+1+1+1:=by simp[z2]
 generalize W2.alloc (.cells #[.int .i64 0,.int .i64 0,.int .i64 0] 185)=W3 at*;have h4:=Aq.new W3 36 #[.int .i64 0,.int .i64 0];have x4:=An.alloc W3 (.cells #[.int .i64 0,.int .i64 0] 36);rw[z3]at h4;have z4:(W3.alloc (.cells #[.int .i64 0,.int .i64 0] 36)).heap.size=w.heap.size+1+1+1+1:=by simp[z3]
 generalize W3.alloc (.cells #[.int .i64 0,.int .i64 0] 36)=W4 at*;have h5:=Aq.new W4 185 #[.int .i64 k4,.int .i64 k1,.int .i64 k5];have x5:=An.alloc W4 (.cells #[.int .i64 k4,.int .i64 k1,.int .i64 k5] 185);exact I45
theorem Mx (w:World):Calls Tryz.prog 107 #[.agg #[.int .i64 fk,.int .i64 fa],.agg #[.int .i64 k1,.int .i64 k2,.int .i64 k3,.int .i64 k4,.int .i64 k5]] w fun e w'=>
 (∃mk ma zk za er:Int,e=.returned (.tuple #[.agg #[.int .i64 mk,.int .i64 k1,.int .i64 ma],.agg #[.int .i64 zk,.int .i64 za],.int .i64 er])∧((er=0∧Ho fk fa k4 k5=some (mk,ma,zk,za))∨(er=5∧Ho fk fa k4 k5=none)))∧An w w':=by
 obtain⟨W0,hW,hx,hb2,hb3,hb4,hb5,hb7⟩:=cD w fk fa k1 k2 k3 k4 k5;have HX:=A6 hx;have B2:=A6 hb2;have B3:=A6 hb3;have B4:=A6 hb4;have B5:=A6 hb5;have B7:=A6 hb7;have HW:=A6 hW;clear hx hb2 hb3 hb4 hb5 hb7 hW;go_enter Tryz.func107,Tryz.ntmps107
 go_upto_region 2 with fail
 have hw:=HW.out;change Code.wp _ _ _ _ (((((w.alloc (.cells #[.int .i64 fk,.int .i64 fa] 36)).alloc (.cells #[.int .i64 k1,.int .i64 k2,.int .i64 k3,.int .i64 k4,.int .i64 k5] 62)).alloc (.cells #[.int .i64 0,.int .i64 0,.int .i64 0] 185)).alloc (.cells #[.int .i64 0,.int .i64 0] 36)).alloc (.cells #[.int .i64 k4,.int .i64 k1,.int .i64 k5] 185));rw[←hw];clear hw HW;obtain⟨x0,x1⟩:=Es B2.out;obtain⟨y0,y1,y2,y3,y4⟩:=Uj B3.out;obtain⟨z0,z1,z2⟩:=Gy B7.out;go_wp2_with fail
 ·have N0:=trivial;exact K3
 ·have N1:=trivial;exact K3
 ·have N2:=trivial;exact K3
 ·have N3:=trivial;exact K3
 ·have N0:=trivial;exact K5
 ·have N0:=trivial;exact K1
 ·have N1:=trivial;exact K5
 ·have N1:=trivial;exact K1
 ·have N2:=trivial;exact K5
theorem mH {n c:Nat}{a:Int}(w:World)(h:¬(n≤200∧0≤a∧a≤max 0 ((n:Int)-1)))(hn:n≤maxLen):
 Calls Tryz.prog 48 #[.agg #[.slice A n c,.int .i64 a]] w fun e w'=>∃er,er≠0∧e=.returned (.int .i64 er)∧An w w':=by
 have hx:=A6 (An.alloc w (.cells #[.slice A n c,.int .i64 a] 32));unfold maxLen at hn;have hwr:IntKind.i64.wrap ((n:Int)-1)=(n:Int)-1:=IntWalk.i64_in _ (by omega)
 go_enter Tryz.func48,Tryz.ntmps48
 go_wp2_with fail
 all_goals first
  |(go_ret;exact⟨2,by decide,rfl,hx.out⟩)
  |(go_ret;exact⟨1,by decide,rfl,hx.out⟩)
  |(exfalso;omega)
theorem J0p {n c:Nat}{a fk fa k1 k2 k3 k4 k5:Int}{rs:Array Value}{Ok:Prop}{Post:World→Array Value→Prop}(hnm:n≤maxLen)(h:¬(n≤200∧0≤a∧a≤max 0 ((n:Int)-1))∨¬(0≤k1∧k1≤999))(hno:¬Ok):
 Calls Tryz.prog 28 #[.agg #[.slice A n c,.int .i64 a],.agg rs,.agg #[.int .i64 fk,.int .i64 fa],.agg #[.int .i64 k1,.int .i64 k2,.int .i64 k3,.int .i64 k4,.int .i64 k5]] w (nR w Ok Post):=by
 have HC:Hid (∀w,Calls Tryz.prog 48 #[.agg #[.slice A n c,.int .i64 a]] w fun e w'=>∃er,(er=0→¬(0≤k1∧k1≤999))∧e=.returned (.int .i64 er)∧An w w'):=A6 fun w=>by
  by_cases hc:n≤200∧0≤a∧a≤max 0 ((n:Int)-1)
  ·exact(We w hc.1 hc.2.1 hc.2.2).mono fun e w' ⟨h1,h2⟩=>⟨0,fun _=>h.resolve_left (fun hh=>hh hc),h1,h2⟩
  ·exact(mH w hc hnm).mono fun e w' ⟨er,h1,h2,h3⟩=>⟨er,fun hh=>absurd hh h1,h2,h3⟩
 have HNo:=A6 hno;obtain⟨w0,hw0,hx0,hb0,hb1,hb2,hb3,hb4⟩:=bF w A n c a fk fa k1 k2 k3 k4 k5 rs;have HX:=A6 hx0;have B0:=A6 hb0;have B3:=A6 hb3;have B4:=A6 hb4;have HW:=A6 hw0;clear hx0 hb0 hb1 hb2 hb3 hb4 hw0 h hno hnm;go_enter Tryz.func28,Tryz.ntmps28
 go_upto_region 1 with fail
 have hw:=HW.out;unfold Ea at hw;change Code.wp _ _ _ _ (((((w.alloc (.cells #[.slice A n c,.int .i64 a] 32)).alloc (.cells rs 38)).alloc (.cells #[.int .i64 fk,.int .i64 fa] 36)).alloc (.cells #[.int .i64 k1,.int .i64 k2,.int .i64 k3,.int .i64 k4,.int .i64 k5] 62)).alloc (.cells Ea 77));unfold Ea;rw[←hw];clear hw HW;obtain⟨x0,x1⟩:=Es B0.out;go_wp2_with fail
 refine(HC.out _).mono ?_
 rintro e w1 ⟨er,her,rfl,he1⟩;have C3:=A6 (B3.out.ext he1);have C4:=A6 (B4.out.ext he1);have CX:=A6 (HX.out.trans he1);have HER:=A6 her;clear x0 x1 B0 B3 B4 HX he1 HC her;by_cases h0:er=0
 ·subst h0
  have hk:=HER.out rfl;obtain⟨y0,y1,y2,y3,y4⟩:=Uj C3.out;have hor:k1<0∨999<k1:=by omega
  clear HER hk;go_wp2_with (refine wpList_store_row rfl 77 (.tmp 8) _ rfl (w.heap.size+1+1+1+1) Ea rfl rfl 77 Ea C4.out (Fw rfl) rfl P8 ?_)
  all_goals first
   |(exfalso;omega)
   |(
    have hres:=C4.out.setRow Ea;refine bodyPost_ret (v:=.tuple #[.agg Ea,.int .i64 1]) ?_ rfl ⟨An.setRow CX.out (by omega) _,.inl ⟨HNo.out,1,by decide,rfl⟩⟩
    exact Eb rfl _ _ (w.heap.size+1+1+1+1) 77 _ _ _ _ rfl rfl hres Tryz.underlying77 rfl (Fw rfl))
 ·clear HER
  go_wp2_with (refine wpList_store_row rfl 77 (.tmp 8) _ rfl (w.heap.size+1+1+1+1) Ea rfl rfl 77 Ea C4.out (Fw rfl) rfl P8 ?_)
  have hres:=C4.out.setRow Ea;refine bodyPost_ret (v:=.tuple #[.agg Ea,.int .i64 er]) ?_ rfl ⟨An.setRow CX.out (by omega) _,.inl ⟨HNo.out,er,h0,rfl⟩⟩
  exact Eb rfl _ _ (w.heap.size+1+1+1+1) 77 _ _ _ _ rfl rfl hres Tryz.underlying77 rfl (Fw rfl)
theorem Cf {P:Program}{ops:Array Oper}{o:Oper}{a:Act}{K:Act→World→Prop}{Q:Exit→Act→World→Prop}{E:Prop}{ars:Array Operand}{tys:Array TypeId}(hw:Bs o (yielded ops a.tmps)=true)
 (f:FuncId) (args:Array Value) (ho:o.op=.call { callee:=.value (.func f),args:=ars,argTypes:=tys }) (hrun:(execOp a.eval o).run P w=.ok (.enter f args) w) (R:Value→World→Prop)
 (hc:Calls P f args w fun e w'=>∃v,e=.returned v∧R v w') (h:∀v w',R v w'→K (a.put o.dst v) w'):if Bs o (yielded ops a.tmps)=true then Oper.wp P o a w K Q else E:=by
 rw[if_pos hw];exact I17
def Qv (l:List Int)(a k:Nat)(x:Int):List Int:=l.take a++List.replicate k x++l.drop (a+k)
theorem J0y {g bx:Nat}{k5:Int}(hb:Aq w g 118 cs)(h33:cs[33]? = some (.int .i64 k5))(hbx:Aq w bx 116 #[.pointer (some ⟨g,0,none⟩)])(x:Int):
 Calls Tryz.prog 114 #[.int .i64 x,.pointer (some ⟨bx,0,none⟩)] w fun e w'=>e=.returned (.int .i64 k5)∧w=w':=by
 have x33:w.cell? ⟨g,33,none⟩=some (.int .i64 k5):=(hb.cell 33).trans h33;have z0:w.cell? ⟨bx,0,none⟩=some (.pointer (some ⟨g,0,none⟩)):=hbx.cell 0;clear hb h33 hbx;go_enter Tryz.func114,Tryz.ntmps114
 go_wp2_with fail
 go_ret
 exact⟨rfl,rfl⟩
theorem fP {g n c a k bx:Nat}{k5:Int}{l:List Int}{v34 v66:Value}(hb:Aq w g 118 cs)(h0:cs[0]? = some (.slice A n c))(h1:cs[1]? = some (.int .i64 (a:Int)))(h34:cs[34]? = some v34)(h66:cs[66]? = some v66)(h33:cs[33]? = some (.int .i64 k5))(hbx:Aq w bx 116 #[.pointer (some ⟨g,0,none⟩)])(hl:Bl w A n c l)(hn:n≤200)(hak:a+k≤n):
 Calls Tryz.prog 111 #[.pointer (some ⟨g,0,none⟩),.int .i64 (k:Int),.func (.func 114) #[] #[.pointer (some ⟨bx,0,none⟩)]] w fun e w'=>(∃u,e=.returned u)∧Td w g cs l (Qv l a k k5) w':=by
 have N1:=trivial;exact K23
end
