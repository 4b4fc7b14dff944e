/-
  Part of the proof: ZRopeM.
-/
import Derived.Test.YtkaefdmhlmlhbaaGreatZBase
import Derived.IntWalk
set_option maxRecDepth 100000
set_option maxHeartbeats 16000000
set_option linter.unusedVariables false
set_option linter.unusedSimpArgs false
namespace Go.Proofs.YtkaefdmhlmlhbaaGreat
open Go.RowKit
open _root_.List renaming cons_append→Z3t,getElem?_cons_succ→Ag,getElem?_cons_zero→Af,getElem?_toArray→Ah,mem_singleton→F1
open Region renaming wanted→Bp
open _root_.Nat renaming eq_zero_or_pos→Bm,le_refl→Aj,lt_or_ge→Av
inductive Tr where
 |nil:Tr
 |node (l:Tr) (c:Int) (r:Tr):Tr
namespace Tr
def sz:Tr→Nat
 |nil=>0
 |node l _ r=>l.sz+1+r.sz
def ht:Tr→Nat
 |nil=>0
 |node l _ r=>1+max l.ht r.ht
def toL:Tr→List Int
 |nil=>[]
 |node l c r=>l.toL++c::r.toL
def bal:Tr→Prop
 |nil=>True
 |node l _ r=>l.bal∧r.bal∧l.ht≤r.ht+1∧r.ht≤l.ht+1
theorem toL_node (l:Tr)(c:Int)(r:Tr):(node l c r).toL=l.toL++c::r.toL:=rfl
theorem len:∀t:Tr,t.toL.length=t.sz
 |nil=>rfl
 |node l c r=>by unfold toL sz;rw[List.length_append,List.length_cons,len l,len r];omega
theorem ht_le:∀t:Tr,t.ht≤t.sz
 |nil=>Nat.le_refl _
 |node l c r=>by have:=ht_le l;have:=ht_le r;unfold ht sz;omega
def level (l:Tr)(c:Int)(r:Tr):Tr:=
 if l.ht>r.ht+1 then
  match l with
  |nil=>nil
  |node ll lc lr=>if lr.ht≤ll.ht then node ll lc (node lr c r)else
   match lr with
   |nil=>nil
   |node ml mc mr=>node (node ll lc ml) mc (node mr c r)
 else if r.ht>l.ht+1 then
  match r with
  |nil=>nil
  |node rl rc rr=>if rl.ht≤rr.ht then node (node l c rl) rc rr else
   match rl with
   |nil=>nil
   |node ml mc mr=>node (node l c ml) mc (node mr rc rr)
 else node l c r
def last:Tr→Tr×Int
 |nil=>(nil,0)
 |node l c nil=>(l,c)
 |node l c (node a b d)=>(level l c (last (node a b d)).1,(last (node a b d)).2)
def buildF:Nat→List Int→Tr
 |0,_=>nil
 |f+1,l=>if l.length=0 then nil else node (buildF f (l.take (l.length/2))) (gI l (l.length/2)) (buildF f (l.drop (l.length/2+1)))
def build (l:List Int):Tr:=buildF l.length l
end Tr
def Jm (c:Int):Prop:=0≤c∧c≤1114111∧(c<55296∨57343<c)
instance (c:Int):Decidable (Jm c):=by unfold Jm;exact inferInstance
def Mu (c:Nat):List Nat:=
 if c<128 then [c]
 else if c<2048 then [192+c/64,128+c%64]
 else if c<65536 then [224+c/4096,128+c/64%64,128+c%64]
 else [240+c/262144,128+c/4096%64,128+c/64%64,128+c%64]
def Fx (l:List Nat):ByteArray:=⟨(l.map UInt8.ofNat).toArray⟩
theorem Z5k {c:Nat}(h:Jm c):Utf8.encode c=Fx (Mu c):=by
 obtain⟨h0,h1,h2⟩:=h;have hv:Utf8.valid (c:Int)=true:=by
  unfold Utf8.valid;rcases h2 with h2|h2
  ·simp;omega
  ·simp;omega
 unfold Utf8.encode Mu Fx;simp only[hv,if_true,Int.toNat_natCast];split
 ·rfl
 ·split
  ·rfl
  ·split<;>rfl
theorem Z5f {c:Nat}(h:c≤1114111):∀x∈Mu c,x<256:=by
 intro x hx;unfold Mu at hx;split at hx
 ·simp at hx;omega
 ·split at hx
  ·simp at hx;omega
  ·split at hx
   ·simp at hx;omega
   ·simp at hx;omega
def Ao (s:ByteArray):List Nat:=s.data.toList.map UInt8.toNat
def gN (l:List Nat)(k:Nat):Nat:=l[k]?.getD 0
theorem Fi (s:ByteArray):(Ao s).length=s.size:=by unfold Ao;rw[List.length_map];rfl
theorem Te (s:ByteArray):∀x∈Ao s,x<256:=by
 intro x hx;unfold Ao at hx;obtain⟨u,_,rfl⟩:=List.mem_map.1 hx;exact u.toNat_lt
theorem Ly {l:List Nat}(h:∀x∈l,x<256):Ao (Fx l)=l:=by
 unfold Fx Ao;simp only[List.toList_toArray,List.map_map]
 conv=>rhs;rw[←List.map_id l]
 apply List.map_congr_left
 intro x hx;simp only[Function.comp,UInt8.toNat_ofNat',id];exact Nat.mod_eq_of_lt (h x hx)
theorem Tf (s:ByteArray)(k:Nat)(h:k<s.size):(s[k]'h).toNat=gN (Ao s) k:=by
 unfold gN Ao;rw[List.getElem?_map,List.getElem?_eq_getElem (show k<s.data.toList.length by simpa using h)]
 simp
 rfl
theorem J4q {l:List Nat}(h:∀x∈l,x<256)(k:Nat):gN l k<256:=by
 unfold gN;cases hk:l[k]? with
 |none=>simp
 |some u=>exact h u (List.mem_of_getElem? hk)
theorem Zp (s t:ByteArray):Ao (s++t)=Ao s++Ao t:=by
 unfold Ao;simp[ByteArray.data_append]
theorem Z5j (s:ByteArray)(k:Nat):Ao (s.extract k s.size)=(Ao s).drop k:=by
 unfold Ao;rw[ByteArray.data_extract];simp only[Array.toList_extract,List.extract,←List.map_drop];rw[List.take_of_length_le];rw[List.length_drop];exact Nat.le_refl _
def Dy (b:Nat):Nat:=if b<128 then 1 else if b<192 then 0 else if b<224 then 2 else if b<240 then 3 else if b<248 then 4 else 0
def Ja (b:Nat):Nat:=if b<128 then b else if b<192 then 0 else if b<224 then b%32 else if b<240 then b%16 else if b<248 then b%8 else 0
def Ld (n:Nat):Nat:=if n=2 then 128 else if n=3 then 2048 else if n=4 then 65536 else 0
def Jn (l:List Nat):Nat→Nat→Nat→Nat×Nat
 |0,_,c=>(0,c)
 |f+1,i,c=>if i=l.length then(3,c)else if gN l i/64≠2 then(4,c)else Jn l f (i+1) (c*64+gN l i%64)
def Pa (l:List Nat):Nat×Nat:=Jn l (Dy (gN l 0)-1) 1 (Ja (gN l 0))
def Vu (l:List Nat):Prop:=¬((Pa l).2<Ld (Dy (gN l 0))∨¬Jm (Pa l).2)
instance (l:List Nat):Decidable (Vu l):=by unfold Vu;exact inferInstance
def H8 (l:List Nat):Nat:=if l.length=0 then 3 else if Dy (gN l 0)=0 then 4 else if(Pa l).1≠0 then(Pa l).1 else if Vu l then 0 else 4
def Hb (l:List Nat):Nat:=if H8 l=0 then(Pa l).2 else 0
def Ka (l:List Nat):Nat:=if H8 l=0 then Dy (gN l 0)else 0
theorem Yq (c:Nat):0<(Mu c).length:=by unfold Mu;split<;>(try split)<;>(try split)<;>simp
theorem Z4u (c:Nat):(Mu c).length≤4:=by unfold Mu;split<;>(try split)<;>(try split)<;>simp
theorem Eh (a:Nat)(l:List Nat):gN (a::l) 0=a:=rfl
theorem Fg (a:Nat)(l:List Nat)(k:Nat):gN (a::l) (k+1)=gN l k:=rfl
theorem Q0i {b:Nat}(h:b<128):Dy b=1∧Ja b=b:=by unfold Dy Ja;rw[if_pos h,if_pos h];exact⟨rfl,rfl⟩
theorem Z2v {b:Nat}(h:128≤b)(h':b<192):Dy b=0:=by unfold Dy;rw[if_neg (by omega),if_pos h']
theorem Q0h {b:Nat}(h:192≤b)(h':b<224):Dy b=2∧Ja b=b%32:=by
 unfold Dy Ja;rw[if_neg (by omega),if_neg (by omega),if_pos h',if_neg (by omega),if_neg (by omega),if_pos h'];exact⟨rfl,rfl⟩
theorem Q0g {b:Nat}(h:224≤b)(h':b<240):Dy b=3∧Ja b=b%16:=by
 unfold Dy Ja;rw[if_neg (by omega),if_neg (by omega),if_neg (by omega),if_pos h',if_neg (by omega),if_neg (by omega),if_neg (by omega),if_pos h'];exact⟨rfl,rfl⟩
theorem Q0f {b:Nat}(h:240≤b)(h':b<248):Dy b=4∧Ja b=b%8:=by
 unfold Dy Ja;rw[if_neg (by omega),if_neg (by omega),if_neg (by omega),if_neg (by omega),if_pos h',if_neg (by omega),if_neg (by omega),if_neg (by omega),if_neg (by omega),if_pos h'];exact⟨rfl,rfl⟩
theorem Z2u {b:Nat}(h:248≤b):Dy b=0:=by
 unfold Dy;rw[if_neg (by omega),if_neg (by omega),if_neg (by omega),if_neg (by omega),if_neg (by omega)]
theorem Wt {c:Nat}(h:Jm c)(m:List Nat):Dy (gN (Mu c++m) 0)=(Mu c).length:=by
 obtain⟨h0,h1,h2⟩:=h;unfold Mu;split
 ·rw[Z3t,Eh,(Q0i (by omega)).1];rfl
 split
 ·rw[Z3t,Eh,(Q0h (by omega) (by omega)).1];rfl
 split
 ·rw[Z3t,Eh,(Q0g (by omega) (by omega)).1];rfl
 ·rw[Z3t,Eh,(Q0f (by omega) (by omega)).1];rfl
theorem Hg {l:List Nat}{f i c:Nat}(h1:i≠l.length)(h2:gN l i/64=2):Jn l (f+1) i c=Jn l f (i+1) (c*64+gN l i%64):=by
 rw[Jn,if_neg h1,if_neg (by omega)]
theorem Zu {c:Nat}(h:Jm c)(m:List Nat):Pa (Mu c++m)=(0,c):=by
 unfold Pa;rw[Wt h];obtain⟨h0,h1,h2⟩:=h;unfold Mu;split
 ·rw[Z3t,Eh,(Q0i (by omega)).2];rfl
 split
 ·rw[Z3t,Eh,(Q0h (by omega) (by omega)).2]
  show Jn ((192+c/64)::(128+c%64)::m) 1 1 _=_
  rw[Hg (by simp) (by rw[Fg,Eh];omega),Jn,Fg,Eh]
  congr 1;omega
 split
 ·rw[Z3t,Eh,(Q0g (by omega) (by omega)).2]
  show Jn ((224+c/4096)::(128+c/64%64)::(128+c%64)::m) 2 1 _=_
  rw[Hg (by simp) (by rw[Fg,Eh];omega),Hg (by simp) (by rw[Fg,Fg,Eh];omega),Jn,Fg,Fg,Fg,Eh,Eh]
  congr 1;omega
 ·rw[Z3t,Eh,(Q0f (by omega) (by omega)).2]
  show Jn ((240+c/262144)::(128+c/4096%64)::(128+c/64%64)::(128+c%64)::m) 3 1 _=_
  rw[Hg (by simp) (by rw[Fg,Eh];omega),Hg (by simp) (by rw[Fg,Fg,Eh];omega),Hg (by simp) (by rw[Fg,Fg,Fg,Eh];omega),Jn]
  simp only[Fg,Eh]
  congr 1;omega
theorem Q3u {c:Nat}(h:Jm c)(m:List Nat):H8 (Mu c++m)=0:=by
 have hl:=Wt h m;have hr:=Zu h m;have hp:=Yq c;unfold H8;rw[if_neg (by rw[List.length_append];omega),if_neg (by omega),hr,if_neg (by simp),if_pos]
 unfold Vu;rw[hr,hl];refine fun hh=>hh.elim (fun h1=>?_) (fun h1=>h1 h)
 unfold Mu Ld at h1;obtain⟨h0,_,h2⟩:=h;split at h1
 ·simp at h1
 split at h1
 ·simp at h1;omega
 split at h1
 ·simp at h1;omega
 ·simp at h1;omega
theorem Zw {c:Nat}(h:Jm c)(m:List Nat):Hb (Mu c++m)=c:=by
 unfold Hb;rw[if_pos (Q3u h m),Zu h m]
theorem Z4z {l:List Nat}(h:0<l.length):∃m,l=gN l 0::m:=by
 cases l with
 |nil=>simp at h
 |cons a m=>exact⟨m,rfl⟩
theorem Z4c {l:List Nat}{f i c e r:Nat}(hi:i<l.length∨i=l.length)(h:Jn l (f+1) i c=(0,r)):i<l.length∧gN l i/64=2∧Jn l f (i+1) (c*64+gN l i%64)=(0,r):=by
 unfold Jn at h;split at h
 ·simp at h
 ·rename_i h1
  split at h
  ·simp at h
  ·rename_i h2
   exact⟨by omega,by omega,h⟩
theorem Z5p {l:List Nat}(hb:∀x∈l,x<256)(h:H8 l=0):Jm (Hb l)∧Ka l=(Mu (Hb l)).length∧∃m,l=Mu (Hb l)++m:=by
 have hC:Hb l=(Pa l).2:=by unfold Hb;rw[if_pos h]
 have hW:Ka l=Dy (gN l 0):=by unfold Ka;rw[if_pos h]
 rw[hC,hW];unfold H8 at h;split at h
 ·cases h
 rename_i h0;split at h
 ·cases h
 rename_i h1;split at h
 ·exact absurd h (by assumption)
 rename_i h2;split at h
 rotate_left
 ·cases h
 rename_i h3;have h2':(Pa l).1=0:=by omega
 clear h h2;unfold Vu at h3;obtain⟨h4,h5⟩:=not_or.1 h3;replace h5:=Decidable.not_not.1 h5;clear h3;obtain⟨r,hr⟩:∃r,Pa l=(0,r):=⟨(Pa l).2,by rw[←h2']⟩
 rw[hr]at h4 h5 ⊢;clear h2';simp only at h4 h5 ⊢;refine⟨h5,?_⟩
 obtain⟨m,hm⟩:=Z4z (l:=l) (by omega)
 have hb0:=hb (gN l 0) (by rw[hm,Eh];simp)
 generalize gN l 0=b at*;unfold Pa at hr;rw[hm,Eh]at hr;rw[hm]at hb;subst hm;clear hC hW h0;have hbs:=h5.2.1;by_cases c1:b<128
 ·obtain⟨e1,e2⟩:=Q0i c1
  rw[e1]at h1 h4 hr ⊢;rw[e2]at hr;simp only[Nat.sub_self,Jn]at hr;injection hr with _ hr;subst hr;have e:Mu b=[b]:=by unfold Mu;rw[if_pos c1]
  rw[e];exact⟨rfl,m,rfl⟩
 by_cases c2:b<192
 ·exact absurd (Z2v (by omega) c2) h1
 by_cases c3:b<224
 ·obtain⟨e1,e2⟩:=Q0h (by omega) c3
  rw[e1]at h1 h4 hr ⊢;rw[e2]at hr;replace hr:Jn (b::m) 1 1 (b%32)=(0,r):=hr;obtain⟨l1,d1,hr⟩:=Z4c (e:=0) (by rw[List.length_cons];omega) hr
  cases m with
  |nil=>simp at l1
  |cons b1 m=>
   simp only[Jn]at hr;injection hr with _ hr;rw[Fg,Eh]at hr d1;replace h4:¬r<128:=h4;have e:Mu r=[b,b1]:=by
    exact I120
   rw[e];exact⟨rfl,m,rfl⟩
 by_cases c4:b<240
 ·obtain⟨e1,e2⟩:=Q0g (by omega) c4
  rw[e1]at h1 h4 hr ⊢;rw[e2]at hr;replace hr:Jn (b::m) 2 1 (b%16)=(0,r):=hr;obtain⟨l1,d1,hr⟩:=Z4c (e:=0) (by rw[List.length_cons];omega) hr
  obtain⟨l2,d2,hr⟩:=Z4c (e:=0) (by omega) hr
  cases m with
  |nil=>simp at l1
  |cons b1 m=>
  cases m with
  |nil=>simp at l2
  |cons b2 m=>
   simp only[Jn]at hr;injection hr with _ hr;simp only[Fg,Eh]at d1 d2 hr;replace h4:¬r<2048:=h4;have e:Mu r=[b,b1,b2]:=by
    exact I119
   rw[e];exact⟨rfl,m,rfl⟩
 by_cases c5:b<248
 ·obtain⟨e1,e2⟩:=Q0f (by omega) c5
  rw[e1]at h1 h4 hr ⊢;rw[e2]at hr;replace hr:Jn (b::m) 3 1 (b%8)=(0,r):=hr;obtain⟨l1,d1,hr⟩:=Z4c (e:=0) (by rw[List.length_cons];omega) hr
  obtain⟨l2,d2,hr⟩:=Z4c (e:=0) (by omega) hr
  obtain⟨l3,d3,hr⟩:=Z4c (e:=0) (by omega) hr
  cases m with
  |nil=>simp at l1
  |cons b1 m=>
  cases m with
  |nil=>simp at l2
  |cons b2 m=>
  cases m with
  |nil=>simp at l3
  |cons b3 m=>
   simp only[Jn]at hr;injection hr with _ hr;simp only[Fg,Eh]at d1 d2 d3 hr;replace h4:¬r<65536:=h4;have e:Mu r=[b,b1,b2,b3]:=by
    exact I118
   rw[e];exact⟨rfl,m,rfl⟩
 ·exact absurd (Z2u (by omega)) h1
theorem Cb {P:Program}{ops:Array Oper}{o:Oper}{a:Act}{w:World}{K:Act→World→Prop}{Q:Exit→Act→World→Prop}{E:Prop}{ars:Array Operand}{tys:Array TypeId}(hgd:o.guard=none)
 (f:FuncId) (args:Array Value) (ho:o.op=.call { callee:=.value (.func f),args:=ars,argTypes:=tys }) (hrun:(execOp a.eval o).run P w=.ok (.enter f args) w) (R:Value→World→Prop)
 (hc:Calls P f args w fun e w'=>∃v,e=.returned v∧R v w'∧Am w w') (h:∀v w',R v w'→Am w w'→K (a.put o.dst v) w'):if Bp o (yielded ops a.tmps)=true then Oper.wp P o a w K Q else E:=by
 have hw:Bp o (yielded ops a.tmps)=true:=by simp[Bp,hgd]
 rw[if_pos hw];unfold Oper.wp;rw[hrun,Oper.upon_enter];refine hc.mono fun e w' hh=>?_
 obtain⟨v,rfl,hR,hE⟩:=hh;exact h v w' hR hE
def Bh (c:Int)(big:Bool):Int:=
 if c=32∨c=9 then 0 else if big=true∨(97≤c∧c≤122)∨(65≤c∧c≤90)∨(48≤c∧c≤57)∨c=95∨128≤c then 1 else 2
theorem Lu (c:Int)(big:Bool):0≤Bh c big∧Bh c big≤2:=by unfold Bh;split<;>(try split)<;>omega
def Aw (l:List Int)(big:Bool)(k:Int):Int:=if 0≤k∧k<l.length then Bh (gI l k.toNat) big else -1
theorem Gd {l:List Int}{big:Bool}{k:Nat}(h:k<l.length):Aw l big k=Bh (gI l k) big:=by
 unfold Aw;rw[if_pos (by omega)];rfl
theorem Ks {l:List Int}{big:Bool}{k:Int}(h:k<0∨(l.length:Int)≤k):Aw l big k = -1:=by
 unfold Aw;rw[if_neg (by omega)]
theorem Wv (l:List Int)(big:Bool)(k:Int) : -1≤Aw l big k∧Aw l big k≤2:=by
 unfold Aw;split
 ·have:=Lu (gI l k.toNat) big;omega
 ·omega
def Sn (l:List Int)(big:Bool)(kind:Int):Nat→Nat→Nat
 |0,k=>k
 |f+1,k=>if Aw l big k=kind then Sn l big kind f (k+1)else k
def Ej (l:List Int)(big:Bool)(kind:Int)(k:Nat):Nat:=Sn l big kind (l.length+1-k) k
def Gp (l:List Int)(big:Bool)(kind:Int):Nat→Nat
 |0=>0
 |m+1=>if Aw l big m=kind then Gp l big kind m else m+1
theorem Us {l:List Int}{big:Bool}{kind:Int}(hk:0≤kind):∀(f k:Nat),l.length+1-k≤f→
 k≤Sn l big kind f k∧(∀i,k≤i→i<Sn l big kind f k→Aw l big i=kind)∧Aw l big (Sn l big kind f k)≠kind∧(Sn l big kind f k≤l.length∨Sn l big kind f k=k)
 |0,k,h=>by
  refine⟨Aj _,fun i h1 h2=>absurd h2 (by show ¬i<k;omega),?_,.inr rfl⟩
  show Aw l big k≠kind
  rw[Ks (by omega)];omega
 |f+1,k,h=>by
  unfold Sn;split
  ·rename_i h1
   have hlt:k<l.length:=by
    rcases Av k l.length with h2|h2
    ·exact h2
    ·rw[Ks (by omega)]at h1;omega
   obtain⟨a,b,c,d⟩:=Us (l:=l) (big:=big) hk f (k+1) (by omega)
   refine⟨by omega,fun i h2 h3=>?_,c,?_⟩
   ·rcases Av k i with h4|h4
    ·exact b i (by omega) h3
    ·obtain rfl:i=k:=by omega
     exact h1
   ·rcases d with d|d
    ·exact .inl d
    ·exact .inl (by omega)
  ·rename_i h1
   exact⟨Aj _,fun i h2 h3=>absurd h3 (by omega),h1,.inr rfl⟩
theorem Fp {l:List Int}{big:Bool}{kind:Int}(hk:0≤kind)(k:Nat):
 k≤Ej l big kind k∧(∀i,k≤i→i<Ej l big kind k→Aw l big i=kind)∧Aw l big (Ej l big kind k)≠kind∧(Ej l big kind k≤l.length∨Ej l big kind k=k):=
 Us hk _ _ (Aj _)
theorem Qj {l:List Int}{big:Bool}{kind:Int}(hk:0≤kind){k j:Nat}(h1:k≤j)(h2:∀i,k≤i→i<j→Aw l big i=kind)(h3:Aw l big j≠kind):Ej l big kind k=j:=by
 obtain⟨a,b,c,_⟩:=Fp (l:=l) (big:=big) hk k;rcases Nat.lt_trichotomy (Ej l big kind k) j with h|h|h
 ·exact absurd (h2 _ a h) c
 ·exact h
 ·exact absurd (b j h1 h) h3
theorem Je {l:List Int}{big:Bool}{kind:Int}:∀m:Nat,
 Gp l big kind m≤m∧(∀i:Nat,Gp l big kind m≤i→i<m→Aw l big i=kind)∧(Gp l big kind m=0∨Aw l big ((Gp l big kind m:Int)-1)≠kind)
 |0=>⟨Aj _,fun i h1 h2=>absurd h2 (by omega),.inl rfl⟩
 |m+1=>by
  unfold Gp;split
  ·rename_i h1
   obtain⟨a,b,c⟩:=Je (l:=l) (big:=big) (kind:=kind) m;refine⟨by omega,fun i h2 h3=>?_,c⟩
   rcases Av i m with h4|h4
   ·exact b i h2 h4
   ·obtain rfl:i=m:=by omega
    exact h1
  ·rename_i h1
   refine⟨Aj _,fun i h2 h3=>absurd h3 (by omega),.inr ?_⟩
   rw[show((m+1:Nat):Int)-1=m by omega]
   exact h1
theorem Y7 {l:List Int}{big:Bool}{kind:Int}{m j:Nat}(h1:j≤m)(h2:∀i:Nat,j≤i→i<m→Aw l big i=kind)(h3:j=0∨Aw l big ((j:Int)-1)≠kind):Gp l big kind m=j:=by
 obtain⟨a,b,c⟩:=Je (l:=l) (big:=big) (kind:=kind) m;rcases Nat.lt_trichotomy (Gp l big kind m) j with h|h|h
 ·rcases h3 with h3|h3
  ·omega
  ·have:=b (j-1) (by omega) (by omega)
   rw[show((j-1:Nat):Int)=(j:Int)-1 by omega]at this
   exact absurd this h3
 ·exact h
 ·rcases c with c|c
  ·omega
  ·have:=h2 (Gp l big kind m-1) (by omega) (by omega)
   rw[show((Gp l big kind m-1:Nat):Int)=(Gp l big kind m:Int)-1 by omega]at this
   exact absurd this c
def Fu (l:List Int)(k:Nat)(big:Bool):Nat:=Ej l big 0 (if 0<Aw l big k then Ej l big (Aw l big k) k else k)
def G0 (l:List Int)(k:Nat)(big:Bool):Nat:=
 if Gp l big 0 k=0 then 0 else Gp l big (Aw l big ((Gp l big 0 k:Int)-1)) (Gp l big 0 k)
def Cq (l:List Int)(k:Nat)(big:Bool):Nat:=
 if l.length≤Ej l big 0 (k+1)then l.length-1 else Ej l big (Aw l big (Ej l big 0 (k+1))) (Ej l big 0 (k+1))-1
theorem Sv {c:Int}{big:Bool}(h:c=32∨c=9):Bh c big=0:=by unfold Bh;rw[if_pos h]
theorem Q1 {c:Int}{big:Bool}(h:¬(c=32∨c=9))(h2:big=true∨(97≤c∧c≤122)∨(65≤c∧c≤90)∨(48≤c∧c≤57)∨c=95∨128≤c):Bh c big=1:=by unfold Bh;rw[if_neg h,if_pos h2]
theorem J3o {c:Int}{big:Bool}(h:¬(c=32∨c=9))(h2:¬(big=true∨(97≤c∧c≤122)∨(65≤c∧c≤90)∨(48≤c∧c≤57)∨c=95∨128≤c)):Bh c big=2:=by unfold Bh;rw[if_neg h,if_neg h2]
theorem Tx (c:Int)(big:Bool)(w:World):Calls Tryz.prog 151 #[.int .i64 c,.bool big] w fun e w'=>e=.returned (.int .i64 (Bh c big))∧w'=w:=by
 by_cases h1:c=32
 ·subst h1
  rw[Sv (.inl rfl)];exact I23
 by_cases h2:c=9
 ·subst h2
  rw[Sv (.inr rfl)];exact I23
 have b1:(c==32)=false:=by simpa using h1
 have b2:(c==9)=false:=by simpa using h2
 have HN:Hid (¬(c=32∨c=9)):=A6 (by omega)
 clear h1 h2;rcases big with _|_
 ·by_cases h3:c=95
  ·subst h3
   rw[Q1 HN.out (by omega)]
   exact I23
  have b3:(c==95)=false:=by simpa using h3
  have HF:Hid (∀v,v=Bh c false→v=Bh c false):=A6 (fun _ h=>h)
  have H3:=A6 h3;clear h3;go_enter Tryz.func151,Tryz.ntmps151
  go_wp2_with fail
  all_goals
   go_ret
   have h3:=H3.out;refine⟨J0 ?_,rfl⟩
   first
    |exact(Q1 HN.out (by omega)).symm
    |exact(J3o HN.out (by simp;omega)).symm
 ·rw[Q1 HN.out (.inl rfl)]
  exact I23
theorem J0l (c:Int)(big:Bool)(w:World)(n:Nat):Calls Tryz.prog 151 #[.int .i64 c,.bool big] (w.drewN n) fun e w''=>e=.returned (.int .i64 (Bh c big))∧∃m,w''=w.drewN m:=
 (Tx c big _).mono fun _ _ ⟨h1,h2⟩=>⟨h1,n,h2⟩
theorem Gv {l:List Int}{A:Option Addr}{n c:Nat}{big:Bool}{w:World}(hl:Bj w A n c l)(k:Int)(h1 : -4611686018427387904≤k)(h2:k≤4611686018427387904):
 Calls Tryz.prog 162 #[.agg #[.slice A n c,.bool big],.int .i64 k] w fun e w'=>e=.returned (.int .i64 (Aw l big k))∧Am w w':=by
 have hlen:=A6 hl.len;have hnc:=hl.ncap;have hcm:=hl.nmax;unfold maxLen at hcm;by_cases hin:0≤k∧k<n
 ·obtain⟨kn,rfl⟩:=Int.eq_ofNat_of_zero_le hin.1
  obtain⟨ad,rfl,hc⟩:=hl.at_ (k:=kn) (by omega)
  have hk:Hid (Aw l big kn=Bh (gI l kn) big):=Gd (by rw[hlen.out];omega)
  have hkn:kn<n:=by omega
  have hck:=(Am.alloc w (.cells #[.slice (some ad) n c,.bool big] 254)).cell (hc kn hkn);clear hc hin;rw[hk.out];go_enter Tryz.func162,Tryz.ntmps162
  go_wp2_with fail
  go_quiet ((go_at_call 151;exact J0l _ _ _ _))
  go_wp2_with fail
  go_ret
  exact⟨rfl,(Am.alloc _ _).to_drewN _⟩
 ·have hk:Hid (Aw l big k = -1):=Ks (by rw[hlen.out];omega)
  rw[hk.out];go_enter Tryz.func162,Tryz.ntmps162
  go_wp2_with fail
  all_goals
   go_ret
   exact⟨rfl,Am.alloc _ _⟩
theorem Md {l:List Int}{big:Bool}{k kind:Int}(h:Aw l big k=kind)(h0:0≤kind):0≤k∧k<l.length:=by
 unfold Aw at h;split at h
 ·assumption
 ·omega
theorem No {l:List Int}{A:Option Addr}{n c:Nat}{big:Bool}{w:World}(hl:Bj w A n c l)(k:Nat)(kind:Int)(h0:0≤kind)(h1:k≤n+1)(hn:n≤4096):
 Calls Tryz.prog 161 #[.agg #[.slice A n c,.bool big],.int .i64 k,.int .i64 1,.int .i64 kind] w fun e w'=>e=.returned (.int .i64 (Ej l big kind k))∧Am w w':=by
 have hlen:=A6 hl.len;have hb0:=Ap.new w 254 #[.slice A n c,.bool big];go_enter Tryz.func161,Tryz.ntmps161
 go_wp2_with fail
 go_loopw [1] (fun i wr=>∃j:Nat,k≤j∧j≤n+1∧i=.int .i64 j∧Hid (∀i:Nat,k≤i→i<j→Aw l big i=kind)∧Ap wr w.heap.size 254 #[.slice A n c,.bool big]∧Am w wr) (fun i _=>n+1-(intOf i).toNat)
 case atStart=>exact⟨k,Aj _,h1,rfl,fun i h1 h2=>absurd h2 (by omega),hb0,Am.alloc _ _⟩
 case round=>
  clear hb0;obtain⟨j,hj,hj2,rfl,hall,hb,he⟩:=hrel;have c0:=hb.cell 0;have c1:=hb.cell 1;simp only[Ah,Af,Ag]at c0 c1;have HK:=A6 (Gv (big:=big) (hl.ext he) j (by omega) (by omega))
  go_wp2_with fail
  refine HK.out.mono ?_
  rintro e w1 ⟨rfl,he1⟩;clear HK c0 c1;by_cases heq:Aw l big j=kind
  ·have b1:(Aw l big j==kind)=true:=by simpa using heq
   have hlt:=(Md heq h0).2;rw[hlen.out]at hlt;have HQ:=A6 heq;clear heq;go_wp2_with fail
   go_roundw
   case rel=>exact⟨j+1,by omega,by omega,by go_num,fun i h1 h2=>by
    rcases Av i j with h3|h3
    ·exact hall.out i h1 h3
    ·obtain rfl:i=j:=by omega
     exact HQ.out,hb.ext he1,he.trans he1⟩
   case measure=>simp[intOf];omega
  ·have b1:(Aw l big j==kind)=false:=by simpa using heq
   have HQ:=A6 heq;clear heq;go_wp2_with fail
   go_ret
   exact⟨J0 (by rw[Qj h0 hj hall.out HQ.out]),he.trans he1⟩
theorem Zn {l:List Int}{A:Option Addr}{n c:Nat}{big:Bool}{w:World}(hl:Bj w A n c l)(m:Nat)(kind:Int)(h0:0≤kind)(h1:m≤n+1)(hn:n≤4096):
 Calls Tryz.prog 161 #[.agg #[.slice A n c,.bool big],.int .i64 ((m:Int)-1),.int .i64 (-1),.int .i64 kind] w fun e w'=>e=.returned (.int .i64 ((Gp l big kind m:Int)-1))∧Am w w':=by
 have hlen:=A6 hl.len;have hb0:=Ap.new w 254 #[.slice A n c,.bool big];go_enter Tryz.func161,Tryz.ntmps161
 go_wp2_with fail
 go_loopw [1] (fun i wr=>∃j:Nat,j≤m∧i=.int .i64 ((j:Int)-1)∧Hid (∀i:Nat,j≤i→i<m→Aw l big i=kind)∧Ap wr w.heap.size 254 #[.slice A n c,.bool big]∧Am w wr) (fun i _=>(intOf i+1).toNat)
 case atStart=>exact⟨m,Aj _,rfl,fun i h1 h2=>absurd h2 (by omega),hb0,Am.alloc _ _⟩
 case round=>
  clear hb0;obtain⟨j,hj,rfl,hall,hb,he⟩:=hrel;have c0:=hb.cell 0;have c1:=hb.cell 1;simp only[Ah,Af,Ag]at c0 c1;have HK:=A6 (Gv (big:=big) (hl.ext he) ((j:Int)-1) (by omega) (by omega))
  go_wp2_with fail
  refine HK.out.mono ?_
  rintro e w1 ⟨rfl,he1⟩;clear HK c0 c1;by_cases heq:Aw l big ((j:Int)-1)=kind
  ·have b1:(Aw l big ((j:Int)-1)==kind)=true:=by simpa using heq
   have hlt:=(Md heq h0).1;have HQ:=A6 heq;clear heq;go_wp2_with fail
   go_roundw
   case rel=>exact⟨j-1,by omega,by
    congr 1;omega,fun i h1 h2=>by
    rcases Av i j with h3|h3
    ·obtain rfl:i=j-1:=by omega
     rw[←HQ.out];congr 1;omega
    ·exact hall.out i h3 h2,hb.ext he1,he.trans he1⟩
   case measure=>simp[intOf];omega
  ·have b1:(Aw l big ((j:Int)-1)==kind)=false:=by simpa using heq
   have HQ:=A6 heq;clear heq;go_wp2_with fail
   go_ret
   exact⟨J0 (by rw[Y7 hj hall.out (.inr HQ.out)]),he.trans he1⟩
theorem J6j {A:Option Addr}{n c:Nat}{k:Int}{w:World}(hnc:n≤c)(hcm:c≤maxLen):
 Calls Tryz.prog 160 #[.slice A n c,.int .i64 k] w fun e w'=>e=.returned (.int .i64 (if n>4096 then 2 else if k<0∨k>n then 1 else 0))∧w'=w:=by
 unfold maxLen at hcm;have HF:Hid (∀v:Int,(n>4096→v=2)→(n≤4096→(k<0∨k>n)→v=1)→(n≤4096→0≤k→k≤n→v=0)→v=(if n>4096 then 2 else if k<0∨k>n then 1 else 0)):=A6 (fun v h1 h2 h3=>by
  split
  ·exact h1 ‹_›
  ·split
   ·exact h2 (by omega) ‹_›
   ·exact h3 (by omega) (by omega) (by omega))
 go_enter Tryz.func160,Tryz.ntmps160
 go_wp2_with fail
 all_goals (go_ret;exact⟨rfl,rfl⟩)
theorem Q1f {l:List Int}{A:Option Addr}{n c:Nat}{k:Nat}{big:Bool}{w:World}(hl:Bj w A n c l)(hn:n≤4096)(hk:k≤n):
 Calls Tryz.prog 180 #[.slice A n c,.int .i64 k,.bool big] w fun e w'=>e=.returned (.tuple #[.int .i64 (Fu l k big),.int .i64 0])∧Am w w':=by
 have N0:=trivial;exact K34
theorem J0x {l:List Int}{k:Nat}{big:Bool}(hk:k≤l.length):
 k≤Fu l k big∧Fu l k big≤l.length∧(Fu l k big=k→k=l.length∨k<l.length∧Aw l big k≠0∧¬0<Aw l big k)∧
 ∃m,k≤m∧m≤Fu l k big∧(∀i,k≤i→i<m→Aw l big i=Aw l big k∧0<Aw l big k)∧(0<Aw l big k→Aw l big m≠Aw l big k)∧(∀i,m≤i→i<Fu l k big→Aw l big i=0)∧Aw l big (Fu l k big)≠0:=by
 unfold Fu;split
 ·rename_i hp
  obtain⟨a1,a2,a3,a4⟩:=Fp (l:=l) (big:=big) (kind:=Aw l big k) (by omega) k
  have hlt:=(Md (k:=k) rfl (show 0≤Aw l big k by omega)).2
  have hle:Ej l big (Aw l big k) k≤l.length:=by rcases a4 with a4|a4<;>omega
  obtain⟨b1,b2,b3,b4⟩:=Fp (l:=l) (big:=big) (kind:=0) (by omega) (Ej l big (Aw l big k) k)
  have hne:Ej l big (Aw l big k) k≠k:=fun e=>a3 (by rw[e])
  refine⟨by omega,by rcases b4 with b4|b4<;>omega,fun e=>by omega,_,a1,b1,fun i h1 h2=>⟨a2 i h1 h2,hp⟩,fun _=>a3,b2,b3⟩
 ·rename_i hp
  obtain⟨b1,b2,b3,b4⟩:=Fp (l:=l) (big:=big) (kind:=0) (by omega) k
  refine⟨b1,by rcases b4 with b4|b4<;>omega,fun e=>?_,k,Nat.le_refl _,b1,fun i h1 h2=>absurd h2 (by omega),fun h=>absurd h hp,b2,b3⟩
  rcases Nat.lt_or_ge k l.length with h|h
  ·rw[e]at b3
   exact .inr ⟨h,b3,hp⟩
  ·exact .inl (by omega)
theorem Zs (c:Int)(big:Bool):0≤Bh c big:=(Lu c big).1
theorem Uw {l:List Int}{big:Bool}{k:Nat}(h:k<l.length)(h0:Aw l big k≠0):0<Aw l big k:=by
 rw[Gd h]at h0 ⊢;have:=Zs (gI l k) big;omega
def Q8j (l:List Int)(i:Nat)(big:Bool):Prop:=i<l.length∧Aw l big i≠0∧(i=0∨Aw l big ((i:Int)-1)≠Aw l big i)
theorem Q4x {l:List Int}{k:Nat}{big:Bool}(hk:k≤l.length):G0 l k big=0∨(0<G0 l k big∧G0 l k big<k∧Q8j l (G0 l k big) big):=by
 unfold G0;obtain⟨b1,b2,b3⟩:=Je (l:=l) (big:=big) (kind:=0) k;generalize Gp l big 0 k=j at*;split
 ·exact .inl rfl
 ·rename_i hj
  rcases b3 with b3|b3
  ·omega
  rw[show((j:Int)-1)=((j-1:Nat):Int)by omega]at b3 ⊢
  obtain⟨c1,c2,c3⟩:=Je (l:=l) (big:=big) (kind:=Aw l big (j-1:Nat)) j;generalize Gp l big (Aw l big (j-1:Nat)) j=r at*;rcases Bm r with h0|h0
  ·exact .inl h0
  ·rcases c3 with c3|c3
   ·omega
   have hr:r<j:=by
    rcases Av r j with h|h
    ·exact h
    ·exfalso
     apply c3
     congr 1
     omega
   have e:=c2 r (Nat.le_refl _) hr;exact .inr ⟨h0,by omega,by omega,by rw[e];exact b3,.inr (by rw[e];exact c3)⟩
theorem J5s {l:List Int}{k:Nat}{big:Bool}(hk:k≤l.length):
 (l.length=0∧Cq l k big=0)∨(0<l.length∧Cq l k big=l.length-1)∨(k<Cq l k big∧Cq l k big+1<l.length∧Aw l big (Cq l k big)≠Aw l big (Cq l k big+1:Nat)):=by
 unfold Cq;obtain⟨b1,b2,b3,b4⟩:=Fp (l:=l) (big:=big) (kind:=0) (by omega) (k+1)
 generalize Ej l big 0 (k+1)=j at*;split
 ·rcases Bm l.length with h|h
  ·exact .inl ⟨h,by omega⟩
  ·exact .inr (.inl ⟨h,rfl⟩)
 ·rename_i hj
  have hp:=Uw (l:=l) (big:=big) (k:=j) (by omega) b3
  obtain⟨c1,c2,c3,c4⟩:=Fp (l:=l) (big:=big) (kind:=Aw l big j) (by omega) j
  generalize Ej l big (Aw l big j) j=r at*;have hr:j<r:=by
   rcases Av j r with h|h
   ·exact h
   ·exact absurd (by congr 1;omega) c3
  have e:=c2 (r-1) (by omega) (by omega)
  rcases Av r l.length with h|h
  ·refine .inr (.inr ⟨by omega,by omega,?_⟩)
   rw[e,show r-1+1=r by omega]
   exact fun h=>c3 h.symm
  ·exact .inr (.inl ⟨by omega,by omega⟩)
theorem Lw {l:List Int}{k:Nat}{big:Bool}(hk:k≤l.length):G0 l k big≤k:=by
 rcases Q4x (big:=big) hk with h|⟨_,h,_⟩<;>omega
theorem Za {l:List Int}{A:Option Addr}{n c:Nat}{k:Nat}{big:Bool}{w:World}(hl:Bj w A n c l)(hn:n≤4096)(hk:k≤n):
 Calls Tryz.prog 133 #[.slice A n c,.int .i64 k,.bool big] w fun e w'=>e=.returned (.tuple #[.int .i64 (G0 l k big),.int .i64 0])∧Am w w':=by
 have N1:=trivial;exact K34
theorem Q5n {l:List Int}{A:Option Addr}{n c:Nat}{k:Nat}{big:Bool}{w:World}(hl:Bj w A n c l)(hn:n≤4096)(hk:k≤n):
 Calls Tryz.prog 181 #[.slice A n c,.int .i64 k,.bool big] w fun e w'=>e=.returned (.tuple #[.int .i64 (Cq l k big),.int .i64 0])∧Am w w':=by
 have N2:=trivial;exact K34
structure Fw where
 f:Int
 t:Int
 x:List Int
def Q0a (n:Int):Int→Int→List Fw→Int
 |_,size,[]=>if 4096<size then 2 else 0
 |last,size,s::e=>
  if s.f≤last∨s.t<s.f∨n<s.t∨(s.f=s.t∧s.x.length=0)then 4
  else if 4096<s.x.length∨8192<size-(s.t-s.f)+s.x.length then 2
  else Q0a n s.t (size-(s.t-s.f)+s.x.length) e
def J6e (n:Int)(e:List Fw):Int:=if n<0∨4096<n then 1 else Q0a n (-1) n e
def good (n:Int):Int→List Fw→Prop
 |_,[]=>True
 |last,s::e=>last<s.f∧s.f≤s.t∧s.t≤n∧¬(s.f=s.t∧s.x.length=0)∧s.x.length≤4096∧good n s.t e
def Yy (size:Int):List Fw→Prop
 |[]=>size≤4096
 |s::e=>size-(s.t-s.f)+s.x.length≤8192∧Yy (size-(s.t-s.f)+s.x.length) e
theorem Xf {n:Int}:∀{e:List Fw} {last size:Int},Q0a n last size e=0↔good n last e∧Yy size e
 |[],last,size=>by
  simp only[Q0a,good,Yy,true_and];split<;>omega
 |s::e,last,size=>by
  simp only[Q0a,good,Yy];split
  ·simp only[Int.reduceEq,false_iff]
   omega
  ·split
   ·simp only[Int.reduceEq,false_iff]
    omega
   ·rw[Xf]
    constructor
    ·rintro⟨h1,h2⟩
     exact⟨⟨by omega,by omega,by omega,by omega,by omega,h1⟩,by omega,h2⟩
    ·rintro⟨⟨_,_,_,_,_,h1⟩,_,h2⟩
     exact⟨h1,h2⟩
theorem Sc {n:Int}{e:List Fw}:J6e n e=0↔0≤n∧n≤4096∧good n (-1) e∧Yy n e:=by
 unfold J6e;split
 ·constructor
  ·intro h;cases h
  ·omega
 ·rw[Xf]
  constructor
  ·rintro⟨h1,h2⟩;exact⟨by omega,by omega,h1,h2⟩
  ·rintro⟨_,_,h1,h2⟩;exact⟨h1,h2⟩
def Z0 (l:List Int):Nat→List Fw→List Int
 |at_,[]=>l.drop at_
 |at_,s::e=>(l.drop at_).take (s.f.toNat-at_)++s.x++Z0 l s.t.toNat e
theorem J6n (l:List Int){a b:Nat}(h:a≤b)(hb:b≤l.length):((l.drop a).take (b-a)).length=b-a:=by
 rw[List.length_take,List.length_drop];omega
theorem Q8a (l:List Int){a b:Nat}(h:a≤b):(l.drop a).take (b-a)++l.drop b=l.drop a:=by
 have:l.drop b=(l.drop a).drop (b-a):=by rw[List.drop_drop];congr 1;omega
 rw[this,List.take_append_drop]
def gE (e:List Fw)(k:Nat):Fw:=e[k]?.getD ⟨0,0,[]⟩
def Z7 (w:World)(xs:List Value)(e:List Fw):Prop:=
 xs.length=e.length*3∧∀i,i<e.length→∃B m d,xs[i*3]? = some (.int .i64 (gE e i).f)∧xs[i*3+1]? = some (.int .i64 (gE e i).t)∧xs[i*3+2]? = some (.slice B m d)∧Bj w B m d (gE e i).x∧(B=none→d=0)
def Hy (w:World)(A:Option Addr)(n c:Nat)(e:List Fw):Prop:=∃xs,Rd w 3 A n c xs∧Z7 w xs e
theorem Z7.ext {w w':World}{xs:List Value}{e:List Fw}(h:Z7 w xs e)(he:Am w w'):Z7 w' xs e:=
 ⟨h.1,fun i hi=>let ⟨B,m,d,h1,h2,h3,h4,h5⟩:=h.2 i hi;⟨B,m,d,h1,h2,h3,h4.ext he,h5⟩⟩
theorem Hy.ext {w w':World}{A:Option Addr}{n c:Nat}{e:List Fw}(h:Hy w A n c e)(he:Am w w'):Hy w' A n c e:=
 let ⟨xs,h1,h2⟩:=h;⟨xs,h1.ext he,h2.ext he⟩
theorem Hy.len {w:World}{A:Option Addr}{n c:Nat}{e:List Fw}(h:Hy w A n c e):e.length=n:=by
 obtain⟨xs,h1,h2⟩:=h;have:=h1.len;have:=h2.1;omega
theorem Hy.ncap {w:World}{A:Option Addr}{n c:Nat}{e:List Fw}(h:Hy w A n c e):n≤c:=let ⟨xs,h1,h2⟩:=h;h1.ncap
theorem Hy.nmax {w:World}{A:Option Addr}{n c:Nat}{e:List Fw}(h:Hy w A n c e):c≤maxLen:=let ⟨xs,h1,h2⟩:=h;h1.nmax
theorem Hy.at_ {w:World}{A:Option Addr}{n c:Nat}{e:List Fw}(h:Hy w A n c e){k:Nat}(hk:k<n):
 ∃ad B m d,A=some ad∧w.cell? (ad.add (k*3))=some (.int .i64 (gE e k).f)∧w.cell? ⟨(ad.add (k*3)).block,(ad.add (k*3)).off+1,none⟩=some (.int .i64 (gE e k).t)∧w.cell? ⟨(ad.add (k*3)).block,(ad.add (k*3)).off+2,none⟩=some (.slice B m d)∧Bj w B m d (gE e k).x∧(B=none→d=0):=by
 have hl:=h.len;obtain⟨xs,h1,h2⟩:=h;obtain⟨ad,hA,hc⟩:=h1.at_ hk;obtain⟨B,m,d,k1,k2,k3,k4,k5⟩:=h2.2 k (by omega)
 refine⟨ad,B,m,d,hA,hc _ _ k1,?_,?_,k4,k5⟩
 ·have:=hc _ _ k2
  rw[←Ku]at this;exact this
 ·have:=hc _ _ k3
  rw[←Ku]at this;exact this
theorem Hy.none_ (w:World):Hy w none 0 0 []:=⟨[],Rd.none_ w 3,rfl,fun i hi=>absurd hi (by simp)⟩
def Ct (c:Int):Int:=if c=40 then 41 else if c=91 then 93 else if c=123 then 125 else if c=41 then 40 else if c=93 then 91 else if c=125 then 123 else 0
def M6 (c:Int):Bool:=decide (c=41∨c=93∨c=125)
theorem J5h {c:Int}(h:Ct c≠0):Ct (Ct c)=c:=by
 unfold Ct at h ⊢
 repeat' split at h
 all_goals first|(subst_vars;rfl)|simp at h
theorem Z0p (c:Int):0≤Ct c∧Ct c≤125:=by
 unfold Ct
 repeat' split
 all_goals omega
abbrev DSt:=(Int→List Nat)×(Nat→Int)
def Dv (p:Nat→Int)(i:Nat)(v:Int):Nat→Int:=fun x=>if x=i then v else p x
def Kw (st:Int→List Nat)(c:Int)(v:List Nat):Int→List Nat:=fun x=>if x=c then v else st x
def Ml (c:Int)(i:Nat)(s:DSt):DSt:=
 if Ct c=0 then(s.1,Dv s.2 i (-1))
 else if M6 c=false then(Kw s.1 c (s.1 c++[i]),Dv s.2 i (-1))
 else match (s.1 (Ct c)).getLast? with
  |none=>(s.1,Dv s.2 i (-1))
  |some k=>(Kw s.1 (Ct c) (s.1 (Ct c)).dropLast,Dv (Dv s.2 i k) k i)
def Ek (l:List Int):Nat→DSt
 |0=>(fun _=>[],fun _=>0)
 |i+1=>Ml (gI l i) i (Ek l i)
theorem Pl {l:List Nat}{k:Nat}(h:l.getLast? = some k):l.dropLast++[k]=l:=by
 obtain⟨h1,h2⟩:=List.getLast?_eq_some_iff.1 h;rw[h2];simp
structure DI (l:List Int)(i:Nat)(st:Int→List Nat)(p:Nat→Int):Prop where
 sorted:∀c,(st c).Pairwise (· < ·)
 mem:∀c,∀k∈st c,k<i∧gI l k=c∧Ct c≠0∧M6 c=false∧p k = -1
 part:∀j,j<i→p j = -1∨∃m:Nat,p j=m∧m<i∧p m=j∧m≠j∧Ct (gI l j)=gI l m∧M6 (gI l j)=decide (m<j)∧Ct (gI l j)≠0
 apart:∀x y:Nat,x<y→y<i→p x=y→∀k∈st (gI l x),k<x∨y<k
 nest:∀x y u v:Nat,x<y→y<i→u<v→v<i→p x=y→p u=v→gI l x=gI l u→x<u→u<y→v<y
 none_:∀j,j<i→p j = -1→Ct (gI l j)≠0→M6 (gI l j)=false→j∈st (gI l j)
theorem DI.start (l:List Int):DI l 0 (Ek l 0).1 (Ek l 0).2 where
 sorted:=fun _=>.nil
 mem:=fun _ _ h=>by cases h
 part:=fun _ h=>absurd h (by omega)
 apart:=fun _ _ _ h=>absurd h (by omega)
 nest:=fun _ _ _ _ _ h=>absurd h (by omega)
 none_:=fun _ h=>absurd h (by omega)
theorem DI.plain {l:List Int}{i:Nat}{st:Int→List Nat}{p:Nat→Int}(h:DI l i st p)(hc:Ct (gI l i)=0∨M6 (gI l i)=true):DI l (i+1) st (Dv p i (-1)):=by
 have hu:∀j,j<i→Dv p i (-1) j=p j:=fun j hj=>if_neg (by omega)
 have hi:Dv p i (-1) i = -1:=if_pos rfl;refine⟨h.sorted,?_,?_,?_,?_,?_⟩
 ·intro c k hk
  obtain⟨h1,h2,h3,h4,h5⟩:=h.mem c k hk;exact⟨by omega,h2,h3,h4,by rw[hu k h1];exact h5⟩
 ·intro j hj
  rcases Av j i with h1|h1
  ·show Dv p i (-1) j = -1∨_
   rcases h.part j h1 with h2|⟨m,h2,h3,h4,h5⟩
   ·exact .inl (by rw[hu j h1];exact h2)
   ·exact .inr ⟨m,by rw[hu j h1];exact h2,by omega,by rw[hu m h3];exact h4,h5⟩
  ·obtain rfl:j=i:=by omega
   exact .inl hi
 ·intro x y hxy hy hp k hk
  rcases Av y i with h1|h1
  ·exact h.apart x y hxy h1 (by rw[←hu x (by omega)];exact hp) k hk
  ·obtain rfl:y=i:=by omega
   have hp':p x=y:=by rw[←hu x hxy];exact hp
   rcases h.part x hxy with h2|⟨m,h2,h3,_⟩
   ·rw[h2]at hp';omega
   ·rw[h2]at hp';omega
 ·intro x y u v hxy hy huv hv hp hq he hxu huy
  have hx:x<i:=by omega
  have hu':u<i:=by omega
  have hp':p x=y:=by rw[←hu x hx];exact hp
  have hq':p u=v:=by rw[←hu u hu'];exact hq
  have hy':y<i:=by
   rcases h.part x hx with h2|⟨m,h2,h3,_⟩<;>omega
  have hv':v<i:=by
   rcases h.part u hu' with h2|⟨m,h2,h3,_⟩<;>omega
  exact h.nest x y u v hxy hy' huv hv' hp' hq' he hxu huy
 ·intro j hj h1 h2 h3
  rcases Av j i with h4|h4
  ·exact h.none_ j h4 (by rw[←hu j h4];exact h1) h2 h3
  ·obtain rfl:j=i:=by omega
   rcases hc with hc|hc
   ·exact absurd hc h2
   ·rw[hc]at h3;cases h3
theorem DI.push {l:List Int}{i:Nat}{st:Int→List Nat}{p:Nat→Int}(h:DI l i st p)(ho:Ct (gI l i)≠0)(hc:M6 (gI l i)=false):DI l (i+1) (Kw st (gI l i) (st (gI l i)++[i])) (Dv p i (-1)):=by
 have hu:∀j,j<i→Dv p i (-1) j=p j:=fun j hj=>if_neg (by omega)
 have hi:Dv p i (-1) i = -1:=if_pos rfl;have hmem:∀c k,k∈Kw st (gI l i) (st (gI l i)++[i]) c↔k∈st c∨(c=gI l i∧k=i):=by
  intro c k;unfold Kw;by_cases e:c=gI l i
  ·subst e;simp
  ·simp[e]
 have hlt:∀x y:Nat,x<i→p x=y→x<y→y<i:=by
  intro x y hx hp hxy;rcases h.part x hx with h2|⟨m,h2,h3,_⟩<;>omega
 refine⟨?_,?_,?_,?_,?_,?_⟩
 ·intro c
  show(Kw st (gI l i) (st (gI l i)++[i]) c).Pairwise _
  unfold Kw;by_cases e:c=gI l i
  ·subst e
   rw[if_pos rfl,List.pairwise_append];exact⟨h.sorted _,by simp,fun a ha b hb=>by
    obtain rfl:=F1.1 hb;exact(h.mem _ a ha).1⟩
  ·rw[if_neg e];exact h.sorted c
 ·intro c k hk
  rcases(hmem c k).1 hk with h1|⟨rfl,rfl⟩
  ·obtain⟨h1,h2,h3,h4,h5⟩:=h.mem c k h1
   exact⟨by omega,h2,h3,h4,by show Dv p i (-1) k = -1;rw[hu k h1];exact h5⟩
  ·exact⟨by omega,rfl,ho,hc,hi⟩
 ·intro j hj
  show Dv p i (-1) j = -1∨_
  rcases Av j i with h1|h1
  ·rcases h.part j h1 with h2|⟨m,h2,h3,h4,h5⟩
   ·exact .inl (by rw[hu j h1];exact h2)
   ·exact .inr ⟨m,by show Dv p i (-1) j=m;rw[hu j h1];exact h2,by omega,by show Dv p i (-1) m=j;rw[hu m h3];exact h4,h5⟩
  ·obtain rfl:j=i:=by omega
   exact .inl hi
 ·intro x y hxy hy hp k hk
  have hx:x<i:=by omega
  have hp':p x=y:=by rw[←hu x hx];exact hp
  have hy':=hlt x y hx hp' hxy;rcases(hmem _ k).1 hk with h1|⟨_,rfl⟩
  ·exact h.apart x y hxy hy' hp' k h1
  ·exact .inr hy'
 ·intro x y u v hxy hy huv hv hp hq he hxu huy
  have hx:x<i:=by omega
  have hu':u<i:=by omega
  have hp':p x=y:=by rw[←hu x hx];exact hp
  have hq':p u=v:=by rw[←hu u hu'];exact hq
  exact h.nest x y u v hxy (hlt x y hx hp' hxy) huv (hlt u v hu' hq' huv) hp' hq' he hxu huy
 ·intro j hj h1 h2 h3
  rcases Av j i with h4|h4
  ·exact(hmem _ j).2 (.inl (h.none_ j h4 (by rw[←hu j h4];exact h1) h2 h3))
  ·obtain rfl:j=i:=by omega
   exact(hmem _ j).2 (.inr ⟨rfl,rfl⟩)
theorem DI.pop {l:List Int}{i k:Nat}{st:Int→List Nat}{p:Nat→Int}(h:DI l i st p)(ho:Ct (gI l i)≠0)(hc:M6 (gI l i)=true)(hk:(st (Ct (gI l i))).getLast? = some k):
 DI l (i+1) (Kw st (Ct (gI l i)) (st (Ct (gI l i))).dropLast) (Dv (Dv p i k) k i)∧k<i:=by
 have hsplit:st (Ct (gI l i))=(st (Ct (gI l i))).dropLast++[k]:=(Pl hk).symm;have hkm:k∈st (Ct (gI l i)):=by rw[hsplit];simp
 obtain⟨hki,hkc,_,hkclo,hkp⟩:=h.mem _ k hkm;have hlast:∀a∈(st (Ct (gI l i))).dropLast,a<k:=by
  have:=h.sorted (Ct (gI l i));rw[hsplit,List.pairwise_append]at this;intro a ha;exact this.2.2 a ha k (by simp)
 have hu:∀j,j<i→j≠k→Dv (Dv p i k) k i j=p j:=fun j hj hne=>by
  unfold Dv;rw[if_neg hne,if_neg (by omega)]
 have huk:Dv (Dv p i k) k i k=i:=if_pos rfl;have hui:Dv (Dv p i k) k i i=k:=by unfold Dv;rw[if_neg (by omega),if_pos rfl]
 have hnk:∀j m:Nat,j<i→p j=m→j≠k→m≠k:=by
  intro j m hj hp hne hmk;subst hmk;rcases h.part j hj with h2|⟨m',h2,h3,h4,h5⟩
  ·omega
  ·obtain rfl:m'=m:=by omega
   rw[hkp]at h4;omega
 have hmem:∀c a,a∈Kw st (Ct (gI l i)) (st (Ct (gI l i))).dropLast c→a∈st c∧a≠k:=by
  intro c a ha;unfold Kw at ha;by_cases e:c=Ct (gI l i)
  ·subst e
   rw[if_pos rfl]at ha;have h1:=hlast a ha;exact⟨by rw[hsplit];simp[ha],by omega⟩
  ·rw[if_neg e]at ha
   refine⟨ha,fun e2=>e ?_⟩
   subst e2;rw[←(h.mem c a ha).2.1,hkc]
 refine⟨⟨?_,?_,?_,?_,?_,?_⟩,hki⟩
 ·intro c
  show(Kw st (Ct (gI l i)) (st (Ct (gI l i))).dropLast c).Pairwise _
  unfold Kw;by_cases e:c=Ct (gI l i)
  ·subst e
   rw[if_pos rfl];exact(h.sorted _).sublist (List.dropLast_sublist _)
  ·rw[if_neg e];exact h.sorted c
 ·intro c a ha
  obtain⟨h1,h2⟩:=hmem c a ha;obtain⟨h3,h4,h5,h6,h7⟩:=h.mem c a h1;exact⟨by omega,h4,h5,h6,by show Dv (Dv p i k) k i a = -1;rw[hu a h3 h2];exact h7⟩
 ·intro j hj
  show Dv (Dv p i k) k i j = -1∨_
  by_cases hjk:j=k
  ·subst hjk
   refine .inr ⟨i,huk,by omega,hui,by omega,?_,?_,?_⟩
   ·rw[hkc];exact J5h ho
   ·rw[hkc,hkclo];simp;omega
   ·rw[hkc,J5h ho]
    intro e;rw[e]at ho;exact ho rfl
  ·rcases Av j i with h1|h1
   ·rcases h.part j h1 with h2|⟨m,h2,h3,h4,h5⟩
    ·exact .inl (by rw[hu j h1 hjk];exact h2)
    ·exact .inr ⟨m,by show Dv (Dv p i k) k i j=m;rw[hu j h1 hjk];exact h2,by omega,by show Dv (Dv p i k) k i m=j;rw[hu m h3 (hnk j m h1 h2 hjk)];exact h4,h5⟩
   ·obtain rfl:j=i:=by omega
    refine .inr ⟨k,hui,by omega,huk,by omega,hkc.symm,?_,ho⟩
    rw[hc];simp;omega
 ·intro x y hxy hy hp a ha
  obtain⟨ha1,ha2⟩:=hmem _ a ha;by_cases hxk:x=k
  ·subst hxk
   left
   have e:gI l x=Ct (gI l i):=hkc;unfold Kw at ha;rw[if_pos e]at ha;exact hlast a ha
  ·have hx:x<i:=by omega
   have hp':p x=y:=by rw[←hu x hx hxk];exact hp
   have hy':y<i:=by
    rcases h.part x hx with h2|⟨m,h2,h3,_⟩<;>omega
   exact h.apart x y hxy hy' hp' a ha1
 ·intro x y u v hxy hy huv hv hp hq he hxu huy
  have hx:x<i:=by omega
  have hul:u<i:=by omega
  by_cases hxk:x=k
  ·-- the new pair is the outer one
   subst hxk;have:y=i:=by have:=huk;rw[show Dv (Dv p i x) x i x=y from hp]at this;omega
   subst this;have hq':p u=v:=by rw[←hu u hul (by omega)];exact hq
   rcases h.part u hul with h2|⟨m,h2,h3,_⟩<;>omega
  ·have hp':p x=y:=by rw[←hu x hx hxk];exact hp
   have hy':y<i:=by
    rcases h.part x hx with h2|⟨m,h2,h3,_⟩<;>omega
   by_cases huk':u=k
   ·-- the new pair is the inner one: it can't be
    subst huk';have:=h.apart x y hxy hy' hp' u (by rw[he,hkc];exact hkm)
    omega
   ·have hq':p u=v:=by rw[←hu u hul huk'];exact hq
    have hv':v<i:=by
     rcases h.part u hul with h2|⟨m,h2,h3,_⟩<;>omega
    exact h.nest x y u v hxy hy' huv hv' hp' hq' he hxu huy
 ·intro j hj h1 h2 h3
  have hjk:j≠k:=by
   intro e;subst e;rw[show Dv (Dv p i j) j i j=(-1:Int)from h1]at huk
   omega
  rcases Av j i with h4|h4
  ·have h5:=h.none_ j h4 (by rw[←hu j h4 hjk];exact h1) h2 h3
   show j∈Kw st (Ct (gI l i)) (st (Ct (gI l i))).dropLast (gI l j)
   unfold Kw;by_cases e:gI l j=Ct (gI l i)
   ·rw[if_pos e]
    rw[e,hsplit]at h5;rcases List.mem_append.1 h5 with h6|h6
    ·exact h6
    ·exact absurd (F1.1 h6) hjk
   ·rw[if_neg e];exact h5
  ·obtain rfl:j=i:=by omega
   rw[hc]at h3;cases h3
theorem Sw {c:Int}{i:Nat}{s:DSt}(h:Ct c=0):Ml c i s=(s.1,Dv s.2 i (-1)):=by unfold Ml;rw[if_pos h]
theorem V4 {c:Int}{i:Nat}{s:DSt}(h:Ct c≠0)(hc:M6 c=false):Ml c i s=(Kw s.1 c (s.1 c++[i]),Dv s.2 i (-1)):=by unfold Ml;rw[if_neg h,if_pos hc]
theorem V5 {c:Int}{i:Nat}{s:DSt}(h:Ct c≠0)(hc:M6 c=true)(he:s.1 (Ct c)=[]):Ml c i s=(s.1,Dv s.2 i (-1)):=by
 unfold Ml;rw[if_neg h,if_neg (by rw[hc];simp),he];rfl
theorem Xc {c:Int}{i k:Nat}{s:DSt}(h:Ct c≠0)(hc:M6 c=true)(he:(s.1 (Ct c)).getLast? = some k):Ml c i s=(Kw s.1 (Ct c) (s.1 (Ct c)).dropLast,Dv (Dv s.2 i k) k i):=by
 unfold Ml;rw[if_neg h,if_neg (by rw[hc];simp),he]
theorem Ye (l:List Int):∀i,DI l i (Ek l i).1 (Ek l i).2
 |0=>DI.start l
 |i+1=>by
  have h:=Ye l i
  show DI l (i+1) (Ml (gI l i) i (Ek l i)).1 (Ml (gI l i) i (Ek l i)).2
  by_cases h1:Ct (gI l i)=0
  ·rw[Sw h1];exact h.plain (.inl h1)
  ·cases hc:M6 (gI l i)with
   |false=>rw[V4 h1 hc];exact h.push h1 hc
   |true=>
    cases he:((Ek l i).1 (Ct (gI l i))).getLast? with
    |none=>rw[V5 h1 hc (List.getLast?_eq_none_iff.1 he)];exact h.plain (.inr hc)
    |some k=>rw[Xc h1 hc he];exact(h.pop h1 hc he).1
def Jy (l:List Int)(i:Nat):List Int:=(List.range l.length).map fun j=>if j<i then(Ek l i).2 j else 0
def Dc (l:List Int):List Int:=(List.range l.length).map fun j=>(Ek l l.length).2 j
theorem Uc (l:List Int)(i:Nat):(Jy l i).length=l.length:=by simp[Jy]
theorem J2z (l:List Int):(Dc l).length=l.length:=by simp[Dc]
theorem Q2c (l:List Int):Jy l l.length=Dc l:=by
 apply List.ext_getElem
 ·simp[Jy,Dc]
 ·intro j h1 h2
  simp[Jy]at h1;simp[Jy,Dc,h1]
theorem J2w (l:List Int):Jy l 0=List.replicate l.length 0:=by
 apply List.ext_getElem
 ·simp[Jy]
 ·intro j h1 h2;simp[Jy]
theorem Py {l:List Int}{i:Nat}(h:(Ek l (i+1)).2=Dv (Ek l i).2 i (-1)):Jy l (i+1)=(Jy l i).set i (-1):=by
 apply List.ext_getElem
 ·simp[Jy]
 ·intro j h1 h2
  rw[List.getElem_set];simp[Jy,h,Dv];by_cases e:i=j
  ·subst e;simp
  ·rw[if_neg e]
   by_cases h3:j<i
   ·rw[if_pos (by omega),if_pos h3,if_neg (by omega)]
   ·rw[if_neg (by omega),if_neg h3]
theorem Q2b {l:List Int}{i k:Nat}(hk:k<i)(h:(Ek l (i+1)).2=Dv (Dv (Ek l i).2 i k) k i):Jy l (i+1)=(((Jy l i).set i (-1)).set i k).set k i:=by
 apply List.ext_getElem
 ·simp[Jy]
 ·intro j h1 h2
  rw[List.getElem_set,List.getElem_set,List.getElem_set];simp[Jy,h,Dv];by_cases e:k=j
  ·subst e;simp;omega
  ·rw[if_neg e]
   by_cases e2:i=j
   ·subst e2;simp;omega
   ·rw[if_neg e2]
    by_cases h3:j<i
    ·rw[if_pos (by omega),if_pos h3,if_neg (by omega),if_neg (by omega),if_neg e2]
    ·rw[if_neg (by omega),if_neg h3,if_neg e2]
theorem Rx {l:List Int}{j:Nat}(h:j<l.length):gI (Dc l) j=(Ek l l.length).2 j:=by simp[gI,Dc,h]
def Ts (l:List Int)(k i m:Nat):Prop:=k≤i∧i<l.length∧Ct (gI l i)≠0∧(∀j,k≤j→j<i→Ct (gI l j)=0)∧gI (Dc l) i=(m:Int)∧m<l.length
def noP (l:List Int)(k:Nat):Prop:=∀i,k≤i→i<l.length→Ct (gI l i)≠0→(∀j,k≤j→j<i→Ct (gI l j)=0)→gI (Dc l) i<0
theorem J3v {l:List Int}{k i m i' m':Nat}(h:Ts l k i m)(h':Ts l k i' m'):i=i'∧m=m':=by
 obtain⟨h1,h2,h3,h4,h5,h6⟩:=h;obtain⟨g1,g2,g3,g4,g5,g6⟩:=h';have e:i=i':=by
  rcases Nat.lt_trichotomy i i' with h|h|h
  ·exact absurd (g4 i h1 h) h3
  ·exact h
  ·exact absurd (h4 i' g1 h) g3
 subst e;exact⟨rfl,by omega⟩
theorem Wz {l:List Int}{k i m:Nat}(h:Ts l k i m):¬noP l k:=fun h'=>by
 obtain⟨h1,h2,h3,h4,h5,h6⟩:=h;have:=h' i h1 h2 h3 h4;omega
