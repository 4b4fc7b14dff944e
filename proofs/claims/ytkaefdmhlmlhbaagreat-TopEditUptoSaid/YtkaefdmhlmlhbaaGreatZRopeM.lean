/-
  Part ZRopeM.
-/
import Derived.Test.YtkaefdmhlmlhbaaGreatZBase
import Derived.IntWalk
set_option maxRecDepth 100000
set_option maxHeartbeats 16000000
set_option linter.unusedVariables false
set_option linter.unusedSimpArgs false
namespace Go.Proofs.YtkaefdmhlmlhbaaGreat
open Go.RowKit
open _root_.List renaming cons_append→J2w,getElem?_cons_succ→Ag,getElem?_cons_zero→Af,getElem?_toArray→Ah,length_cons→Da,mem_singleton→Ek
open Region renaming wanted→Bs
open _root_.Nat renaming eq_zero_or_pos→Bo,le_refl→Aj,lt_or_ge→Ay
section
variable {l:List Int}{big:Bool}{A:Option Addr}{w:World}{n c k b i:Nat}{st:Int→List Nat}{p:Nat→Int}{kind:Int}
inductive Tr where
 |nil:Tr
 |node (l:Tr) (c:Int) (r:Tr):Tr
namespace Tr
def sz:Tr→Nat
 |nil=>0
 |node l _ r=>l.sz+1+r.sz
def ht:Tr→Nat
 |nil=>0
 |node l _ r=>1+max l.ht r.ht
def toL:Tr→List Int
 |nil=>[]
 |node l c r=>l.toL++c::r.toL
def bal:Tr→Prop
 |nil=>True
 |node l _ r=>l.bal∧r.bal∧l.ht≤r.ht+1∧r.ht≤l.ht+1
theorem toL_node (l:Tr)(c:Int)(r:Tr):(node l c r).toL=l.toL++c::r.toL:=rfl
theorem len:∀t:Tr,t.toL.length=t.sz
 |nil=>rfl
 |node l c r=>by unfold toL sz;rw[List.length_append,List.length_cons,len l,len r];omega
theorem ht_le:∀t:Tr,t.ht≤t.sz
 |nil=>Nat.le_refl _
 |node l c r=>by have:=ht_le l;have:=ht_le r;unfold ht sz;omega
def level (l:Tr)(c:Int)(r:Tr):Tr:=
 if l.ht>r.ht+1 then
  match l with
  |nil=>nil
  |node ll lc lr=>if lr.ht≤ll.ht then node ll lc (node lr c r)else
   match lr with
   |nil=>nil
   |node ml mc mr=>node (node ll lc ml) mc (node mr c r)
 else if r.ht>l.ht+1 then
  match r with
  |nil=>nil
  |node rl rc rr=>if rl.ht≤rr.ht then node (node l c rl) rc rr else
   match rl with
   |nil=>nil
   |node ml mc mr=>node (node l c ml) mc (node mr rc rr)
 else node l c r
def last:Tr→Tr×Int
 |nil=>(nil,0)
 |node l c nil=>(l,c)
 |node l c (node a b d)=>(level l c (last (node a b d)).1,(last (node a b d)).2)
def buildF:Nat→List Int→Tr
 |0,_=>nil
 |f+1,l=>if l.length=0 then nil else node (buildF f (l.take (l.length/2))) (gI l (l.length/2)) (buildF f (l.drop (l.length/2+1)))
def build (l:List Int):Tr:=buildF l.length l
end Tr
def El (c:Int):Prop:=0≤c∧c≤1114111∧(c<55296∨57343<c)
instance (c:Int):Decidable (El c):=by unfold El;exact inferInstance
def Fg (c:Nat):List Nat:=
 if c<128 then [c]
 else if c<2048 then [192+c/64,128+c%64]
 else if c<65536 then [224+c/4096,128+c/64%64,128+c%64]
 else [240+c/262144,128+c/4096%64,128+c/64%64,128+c%64]
def Ef (l:List Nat):ByteArray:=⟨(l.map UInt8.ofNat).toArray⟩
theorem lX (h:El c):Utf8.encode c=Ef (Fg c):=by
 obtain⟨h0,h1,h2⟩:=h;have hv:Utf8.valid (c:Int)=true:=by
  unfold Utf8.valid;rcases h2 with h2|h2
  ·simp;omega
  ·simp;omega
 unfold Utf8.encode Fg Ef;simp only[hv,if_true,Int.toNat_natCast];split
 ·rfl
 ·split
  ·rfl
  ·split<;>rfl
theorem wE (h:c≤1114111):∀x∈Fg c,x<256:=by
 intro x hx;unfold Fg at hx;split at hx
 ·simp at hx;omega
 ·split at hx
  ·simp at hx;omega
  ·split at hx
   ·simp at hx;omega
   ·simp at hx;omega
def Ao (s:ByteArray):List Nat:=s.data.toList.map UInt8.toNat
def gN (l:List Nat)(k:Nat):Nat:=l[k]?.getD 0
theorem Dx (s:ByteArray):(Ao s).length=s.size:=by unfold Ao;rw[List.length_map];rfl
theorem Pm (s:ByteArray):∀x∈Ao s,x<256:=by
 intro x hx;unfold Ao at hx;obtain⟨u,_,rfl⟩:=List.mem_map.1 hx;exact u.toNat_lt
theorem Jt {l:List Nat}(h:∀x∈l,x<256):Ao (Ef l)=l:=by
 unfold Ef Ao;simp only[List.toList_toArray,List.map_map]
 conv=>rhs;rw[←List.map_id l]
 apply List.map_congr_left
 intro x hx;simp only[Function.comp,UInt8.toNat_ofNat',id];exact Nat.mod_eq_of_lt (h x hx)
theorem U6 (s:ByteArray)(k:Nat)(h:k<s.size):(s[k]'h).toNat=gN (Ao s) k:=by
 unfold gN Ao;rw[List.getElem?_map,List.getElem?_eq_getElem (show k<s.data.toList.length by simpa using h)]
 simp
 rfl
theorem gH {l:List Nat}(h:∀x∈l,x<256)(k:Nat):gN l k<256:=by
 unfold gN;cases hk:l[k]? with
 |none=>simp
 |some u=>exact h u (List.mem_of_getElem? hk)
theorem qD (s t:ByteArray):Ao (s++t)=Ao s++Ao t:=by
 unfold Ao;simp[ByteArray.data_append]
theorem kV (s:ByteArray)(k:Nat):Ao (s.extract k s.size)=(Ao s).drop k:=by
 unfold Ao;rw[ByteArray.data_extract];simp only[Array.toList_extract,List.extract,←List.map_drop];rw[List.take_of_length_le];rw[List.length_drop];exact Nat.le_refl _
def Dz (b:Nat):Nat:=if b<128 then 1 else if b<192 then 0 else if b<224 then 2 else if b<240 then 3 else if b<248 then 4 else 0
def Jm (b:Nat):Nat:=if b<128 then b else if b<192 then 0 else if b<224 then b%32 else if b<240 then b%16 else if b<248 then b%8 else 0
def Ly (n:Nat):Nat:=if n=2 then 128 else if n=3 then 2048 else if n=4 then 65536 else 0
def Fh (l:List Nat):Nat→Nat→Nat→Nat×Nat
 |0,_,c=>(0,c)
 |f+1,i,c=>if i=l.length then(3,c)else if gN l i/64≠2 then(4,c)else Fh l f (i+1) (c*64+gN l i%64)
def Lw (l:List Nat):Nat×Nat:=Fh l (Dz (gN l 0)-1) 1 (Jm (gN l 0))
def Uf (l:List Nat):Prop:=¬((Lw l).2<Ly (Dz (gN l 0))∨¬El (Lw l).2)
instance (l:List Nat):Decidable (Uf l):=by unfold Uf;exact inferInstance
def Eg (l:List Nat):Nat:=if l.length=0 then 3 else if Dz (gN l 0)=0 then 4 else if(Lw l).1≠0 then(Lw l).1 else if Uf l then 0 else 4
def Ex (l:List Nat):Nat:=if Eg l=0 then(Lw l).2 else 0
def Eu (l:List Nat):Nat:=if Eg l=0 then Dz (gN l 0)else 0
theorem Mz (c:Nat):0<(Fg c).length:=by unfold Fg;split<;>(try split)<;>(try split)<;>simp
theorem cG (c:Nat):(Fg c).length≤4:=by unfold Fg;split<;>(try split)<;>(try split)<;>simp
theorem Dj (a:Nat)(l:List Nat):gN (a::l) 0=a:=rfl
theorem Er (a:Nat)(l:List Nat)(k:Nat):gN (a::l) (k+1)=gN l k:=rfl
theorem gF (h:b<128):Dz b=1∧Jm b=b:=by unfold Dz Jm;rw[if_pos h,if_pos h];exact⟨rfl,rfl⟩
theorem xO (h:128≤b)(h':b<192):Dz b=0:=by unfold Dz;rw[if_neg (by omega),if_pos h']
theorem gD (h:192≤b)(h':b<224):Dz b=2∧Jm b=b%32:=by
 unfold Dz Jm;rw[if_neg (by omega),if_neg (by omega),if_pos h',if_neg (by omega),if_neg (by omega),if_pos h'];exact⟨rfl,rfl⟩
theorem gC (h:224≤b)(h':b<240):Dz b=3∧Jm b=b%16:=by
 unfold Dz Jm;rw[if_neg (by omega),if_neg (by omega),if_neg (by omega),if_pos h',if_neg (by omega),if_neg (by omega),if_neg (by omega),if_pos h'];exact⟨rfl,rfl⟩
theorem gA (h:240≤b)(h':b<248):Dz b=4∧Jm b=b%8:=by
 unfold Dz Jm;rw[if_neg (by omega),if_neg (by omega),if_neg (by omega),if_neg (by omega),if_pos h',if_neg (by omega),if_neg (by omega),if_neg (by omega),if_neg (by omega),if_pos h'];exact⟨rfl,rfl⟩
theorem xN (h:248≤b):Dz b=0:=by
 unfold Dz;rw[if_neg (by omega),if_neg (by omega),if_neg (by omega),if_neg (by omega),if_neg (by omega)]
theorem Xr (h:El c)(m:List Nat):Dz (gN (Fg c++m) 0)=(Fg c).length:=by
 obtain⟨h0,h1,h2⟩:=h;unfold Fg;split
 ·rw[J2w,Dj,(gF (by omega)).1];rfl
 split
 ·rw[J2w,Dj,(gD (by omega) (by omega)).1];rfl
 split
 ·rw[J2w,Dj,(gC (by omega) (by omega)).1];rfl
 ·rw[J2w,Dj,(gA (by omega) (by omega)).1];rfl
theorem Hv {l:List Nat}{f i c:Nat}(h1:i≠l.length)(h2:gN l i/64=2):Fh l (f+1) i c=Fh l f (i+1) (c*64+gN l i%64):=by
 rw[Fh,if_neg h1,if_neg (by omega)]
theorem bC (h:El c)(m:List Nat):Lw (Fg c++m)=(0,c):=by
 unfold Lw;rw[Xr h];obtain⟨h0,h1,h2⟩:=h;unfold Fg;split
 ·rw[J2w,Dj,(gF (by omega)).2];rfl
 split
 ·rw[J2w,Dj,(gD (by omega) (by omega)).2]
  show Fh ((192+c/64)::(128+c%64)::m) 1 1 _=_
  rw[Hv (by simp) (by rw[Er,Dj];omega),Fh,Er,Dj]
  congr 1;omega
 split
 ·rw[J2w,Dj,(gC (by omega) (by omega)).2]
  show Fh ((224+c/4096)::(128+c/64%64)::(128+c%64)::m) 2 1 _=_
  rw[Hv (by simp) (by rw[Er,Dj];omega),Hv (by simp) (by rw[Er,Er,Dj];omega),Fh,Er,Er,Er,Dj,Dj]
  congr 1;omega
 ·rw[J2w,Dj,(gA (by omega) (by omega)).2]
  show Fh ((240+c/262144)::(128+c/4096%64)::(128+c/64%64)::(128+c%64)::m) 3 1 _=_
  rw[Hv (by simp) (by rw[Er,Dj];omega),Hv (by simp) (by rw[Er,Er,Dj];omega),Hv (by simp) (by rw[Er,Er,Er,Dj];omega),Fh]
  simp only[Er,Dj]
  congr 1;omega
theorem rJ (h:El c)(m:List Nat):Eg (Fg c++m)=0:=by
 have hl:=Xr h m;have hr:=bC h m;have hp:=Mz c;unfold Eg;rw[if_neg (by rw[List.length_append];omega),if_neg (by omega),hr,if_neg (by simp),if_pos]
 unfold Uf;rw[hr,hl];refine fun hh=>hh.elim (fun h1=>?_) (fun h1=>h1 h)
 unfold Fg Ly at h1;obtain⟨h0,_,h2⟩:=h;split at h1
 ·simp at h1
 split at h1
 ·simp at h1;omega
 split at h1
 ·simp at h1;omega
 ·simp at h1;omega
theorem V9 (h:El c)(m:List Nat):Ex (Fg c++m)=c:=by
 unfold Ex;rw[if_pos (rJ h m),bC h m]
theorem fF {l:List Nat}(h:0<l.length):∃m,l=gN l 0::m:=by
 cases l with
 |nil=>simp at h
 |cons a m=>exact⟨m,rfl⟩
theorem Ks {l:List Nat}{f i c e r:Nat}(hi:i<l.length∨i=l.length)(h:Fh l (f+1) i c=(0,r)):i<l.length∧gN l i/64=2∧Fh l f (i+1) (c*64+gN l i%64)=(0,r):=by
 unfold Fh at h;split at h
 ·simp at h
 ·rename_i h1
  split at h
  ·simp at h
  ·rename_i h2
   exact⟨by omega,by omega,h⟩
theorem nX {l:List Nat}(hb:∀x∈l,x<256)(h:Eg l=0):El (Ex l)∧Eu l=(Fg (Ex l)).length∧∃m,l=Fg (Ex l)++m:=by
 have hC:Ex l=(Lw l).2:=by unfold Ex;rw[if_pos h]
 have hW:Eu l=Dz (gN l 0):=by unfold Eu;rw[if_pos h]
 rw[hC,hW];unfold Eg at h;split at h
 ·cases h
 rename_i h0;split at h
 ·cases h
 rename_i h1;split at h
 ·exact absurd h (by assumption)
 rename_i h2;split at h
 rotate_left
 ·cases h
 rename_i h3;have h2':(Lw l).1=0:=by omega
 clear h h2;unfold Uf at h3;obtain⟨h4,h5⟩:=not_or.1 h3;replace h5:=Decidable.not_not.1 h5;clear h3;obtain⟨r,hr⟩:∃r,Lw l=(0,r):=⟨(Lw l).2,by rw[←h2']⟩
 rw[hr]at h4 h5 ⊢;clear h2';simp only at h4 h5 ⊢;refine⟨h5,?_⟩
 obtain⟨m,hm⟩:=fF (l:=l) (by omega)
 have hb0:=hb (gN l 0) (by rw[hm,Dj];simp)
 generalize gN l 0=b at*;unfold Lw at hr;rw[hm,Dj]at hr;rw[hm]at hb;subst hm;clear hC hW h0;have hbs:=h5.2.1;by_cases c1:b<128
 ·obtain⟨e1,e2⟩:=gF c1
  rw[e1]at h1 h4 hr ⊢;rw[e2]at hr;simp only[Nat.sub_self,Fh]at hr;injection hr with _ hr;subst hr;have e:Fg b=[b]:=by unfold Fg;rw[if_pos c1]
  rw[e];exact⟨rfl,m,rfl⟩
 by_cases c2:b<192
 ·exact absurd (xO (by omega) c2) h1
 by_cases c3:b<224
 ·obtain⟨e1,e2⟩:=gD (by omega) c3
  rw[e1]at h1 h4 hr ⊢;rw[e2]at hr;replace hr:Fh (b::m) 1 1 (b%32)=(0,r):=hr;obtain⟨l1,d1,hr⟩:=Ks (e:=0) (by rw[Da];omega) hr
  cases m with
  |nil=>simp at l1
  |cons b1 m=>
   simp only[Fh]at hr;injection hr with _ hr;rw[Er,Dj]at hr d1;replace h4:¬r<128:=h4;have e:Fg r=[b,b1]:=by
    exact I99
   rw[e];exact⟨rfl,m,rfl⟩
 by_cases c4:b<240
 ·obtain⟨e1,e2⟩:=gC (by omega) c4
  rw[e1]at h1 h4 hr ⊢;rw[e2]at hr;replace hr:Fh (b::m) 2 1 (b%16)=(0,r):=hr;obtain⟨l1,d1,hr⟩:=Ks (e:=0) (by rw[Da];omega) hr
  obtain⟨l2,d2,hr⟩:=Ks (e:=0) (by omega) hr
  cases m with
  |nil=>simp at l1
  |cons b1 m=>
  cases m with
  |nil=>simp at l2
  |cons b2 m=>
   simp only[Fh]at hr;injection hr with _ hr;simp only[Er,Dj]at d1 d2 hr;replace h4:¬r<2048:=h4;have e:Fg r=[b,b1,b2]:=by
    exact I61
   rw[e];exact⟨rfl,m,rfl⟩
 by_cases c5:b<248
 ·obtain⟨e1,e2⟩:=gA (by omega) c5
  rw[e1]at h1 h4 hr ⊢;rw[e2]at hr;replace hr:Fh (b::m) 3 1 (b%8)=(0,r):=hr;obtain⟨l1,d1,hr⟩:=Ks (e:=0) (by rw[Da];omega) hr
  obtain⟨l2,d2,hr⟩:=Ks (e:=0) (by omega) hr
  obtain⟨l3,d3,hr⟩:=Ks (e:=0) (by omega) hr
  cases m with
  |nil=>simp at l1
  |cons b1 m=>
  cases m with
  |nil=>simp at l2
  |cons b2 m=>
  cases m with
  |nil=>simp at l3
  |cons b3 m=>
   simp only[Fh]at hr;injection hr with _ hr;simp only[Er,Dj]at d1 d2 d3 hr;replace h4:¬r<65536:=h4;have e:Fg r=[b,b1,b2,b3]:=by
    exact I47
   rw[e];exact⟨rfl,m,rfl⟩
 ·exact absurd (xN (by omega)) h1
theorem Cg {P:Program}{ops:Array Oper}{o:Oper}{a:Act}{K:Act→World→Prop}{Q:Exit→Act→World→Prop}{E:Prop}{ars:Array Operand}{tys:Array TypeId}(hgd:o.guard=none)
 (f:FuncId) (args:Array Value) (ho:o.op=.call { callee:=.value (.func f),args:=ars,argTypes:=tys }) (hrun:(execOp a.eval o).run P w=.ok (.enter f args) w) (R:Value→World→Prop)
 (hc:Calls P f args w fun e w'=>∃v,e=.returned v∧R v w'∧An w w') (h:∀v w',R v w'→An w w'→K (a.put o.dst v) w'):if Bs o (yielded ops a.tmps)=true then Oper.wp P o a w K Q else E:=by
 have hw:Bs o (yielded ops a.tmps)=true:=by simp[Bs,hgd]
 rw[if_pos hw];unfold Oper.wp;rw[hrun,Oper.upon_enter];refine hc.mono fun e w' hh=>?_
 obtain⟨v,rfl,hR,hE⟩:=hh;exact h v w' hR hE
def Bj (c:Int)(big:Bool):Int:=
 if c=32∨c=9 then 0 else if big=true∨(97≤c∧c≤122)∨(65≤c∧c≤90)∨(48≤c∧c≤57)∨c=95∨128≤c then 1 else 2
theorem Mi (c:Int)(big:Bool):0≤Bj c big∧Bj c big≤2:=by unfold Bj;split<;>(try split)<;>omega
def B8 (l:List Int)(big:Bool)(k:Int):Int:=if 0≤k∧k<l.length then Bj (gI l k.toNat) big else -1
theorem Gk (h:k<l.length):B8 l big k=Bj (gI l k) big:=by
 unfold B8;rw[if_pos (by omega)];rfl
theorem La {k:Int}(h:k<0∨(l.length:Int)≤k):B8 l big k = -1:=by
 unfold B8;rw[if_neg (by omega)]
theorem Xu (l:List Int)(big:Bool)(k:Int) : -1≤B8 l big k∧B8 l big k≤2:=by
 unfold B8;split
 ·have:=Mi (gI l k.toNat) big;omega
 ·omega
def Tb (l:List Int)(big:Bool)(kind:Int):Nat→Nat→Nat
 |0,k=>k
 |f+1,k=>if B8 l big k=kind then Tb l big kind f (k+1)else k
def Et (l:List Int)(big:Bool)(kind:Int)(k:Nat):Nat:=Tb l big kind (l.length+1-k) k
def H7 (l:List Int)(big:Bool)(kind:Int):Nat→Nat
 |0=>0
 |m+1=>if B8 l big m=kind then H7 l big kind m else m+1
theorem Vp {l:List Int}{big:Bool}{kind:Int}(hk:0≤kind):∀(f k:Nat),l.length+1-k≤f→
 k≤Tb l big kind f k∧(∀i,k≤i→i<Tb l big kind f k→B8 l big i=kind)∧B8 l big (Tb l big kind f k)≠kind∧(Tb l big kind f k≤l.length∨Tb l big kind f k=k)
 |0,k,h=>by
  refine⟨Aj _,fun i h1 h2=>absurd h2 (by show ¬i<k;omega),?_,.inr rfl⟩
  show B8 l big k≠kind
  rw[La (by omega)];omega
 |f+1,k,h=>by
  unfold Tb;split
  ·rename_i h1
   have hlt:k<l.length:=by
    rcases Ay k l.length with h2|h2
    ·exact h2
    ·rw[La (by omega)]at h1;omega
   obtain⟨a,b,c,d⟩:=Vp (l:=l) (big:=big) hk f (k+1) (by omega)
   refine⟨by omega,fun i h2 h3=>?_,c,?_⟩
   ·rcases Ay k i with h4|h4
    ·exact b i (by omega) h3
    ·obtain rfl:i=k:=by omega
     exact h1
   ·rcases d with d|d
    ·exact .inl d
    ·exact .inl (by omega)
  ·rename_i h1
   exact⟨Aj _,fun i h2 h3=>absurd h3 (by omega),h1,.inr rfl⟩
theorem Fx (hk:0≤kind)(k:Nat):
 k≤Et l big kind k∧(∀i,k≤i→i<Et l big kind k→B8 l big i=kind)∧B8 l big (Et l big kind k)≠kind∧(Et l big kind k≤l.length∨Et l big kind k=k):=
 Vp hk _ _ (Aj _)
theorem Rb (hk:0≤kind){k j:Nat}(h1:k≤j)(h2:∀i,k≤i→i<j→B8 l big i=kind)(h3:B8 l big j≠kind):Et l big kind k=j:=by
 obtain⟨a,b,c,_⟩:=Fx (l:=l) (big:=big) hk k;rcases Nat.lt_trichotomy (Et l big kind k) j with h|h|h
 ·exact absurd (h2 _ a h) c
 ·exact h
 ·exact absurd (b j h1 h) h3
theorem Jr {l:List Int}{big:Bool}{kind:Int}:∀m:Nat,
 H7 l big kind m≤m∧(∀i:Nat,H7 l big kind m≤i→i<m→B8 l big i=kind)∧(H7 l big kind m=0∨B8 l big ((H7 l big kind m:Int)-1)≠kind)
 |0=>⟨Aj _,fun i h1 h2=>absurd h2 (by omega),.inl rfl⟩
 |m+1=>by
  unfold H7;split
  ·rename_i h1
   obtain⟨a,b,c⟩:=Jr (l:=l) (big:=big) (kind:=kind) m;refine⟨by omega,fun i h2 h3=>?_,c⟩
   rcases Ay i m with h4|h4
   ·exact b i h2 h4
   ·obtain rfl:i=m:=by omega
    exact h1
  ·rename_i h1
   refine⟨Aj _,fun i h2 h3=>absurd h3 (by omega),.inr ?_⟩
   rw[show((m+1:Nat):Int)-1=m by omega]
   exact h1
theorem Yx {m j:Nat}(h1:j≤m)(h2:∀i:Nat,j≤i→i<m→B8 l big i=kind)(h3:j=0∨B8 l big ((j:Int)-1)≠kind):H7 l big kind m=j:=by
 obtain⟨a,b,c⟩:=Jr (l:=l) (big:=big) (kind:=kind) m;rcases Nat.lt_trichotomy (H7 l big kind m) j with h|h|h
 ·rcases h3 with h3|h3
  ·omega
  ·have:=b (j-1) (by omega) (by omega)
   rw[show((j-1:Nat):Int)=(j:Int)-1 by omega]at this
   exact absurd this h3
 ·exact h
 ·rcases c with c|c
  ·omega
  ·have:=h2 (H7 l big kind m-1) (by omega) (by omega)
   rw[show((H7 l big kind m-1:Nat):Int)=(H7 l big kind m:Int)-1 by omega]at this
   exact absurd this c
def G7 (l:List Int)(k:Nat)(big:Bool):Nat:=Et l big 0 (if 0<B8 l big k then Et l big (B8 l big k) k else k)
def Gb (l:List Int)(k:Nat)(big:Bool):Nat:=
 if H7 l big 0 k=0 then 0 else H7 l big (B8 l big ((H7 l big 0 k:Int)-1)) (H7 l big 0 k)
def Cu (l:List Int)(k:Nat)(big:Bool):Nat:=
 if l.length≤Et l big 0 (k+1)then l.length-1 else Et l big (B8 l big (Et l big 0 (k+1))) (Et l big 0 (k+1))-1
theorem To {c:Int}(h:c=32∨c=9):Bj c big=0:=by unfold Bj;rw[if_pos h]
theorem Ql {c:Int}(h:¬(c=32∨c=9))(h2:big=true∨(97≤c∧c≤122)∨(65≤c∧c≤90)∨(48≤c∧c≤57)∨c=95∨128≤c):Bj c big=1:=by unfold Bj;rw[if_neg h,if_pos h2]
theorem eZ {c:Int}(h:¬(c=32∨c=9))(h2:¬(big=true∨(97≤c∧c≤122)∨(65≤c∧c≤90)∨(48≤c∧c≤57)∨c=95∨128≤c)):Bj c big=2:=by unfold Bj;rw[if_neg h,if_neg h2]
theorem Uo (c:Int)(big:Bool)(w:World):Calls Tryz.prog 151 #[.int .i64 c,.bool big] w fun e w'=>e=.returned (.int .i64 (Bj c big))∧w'=w:=by
 by_cases h1:c=32
 ·subst h1
  rw[To (.inl rfl)];exact I24
 by_cases h2:c=9
 ·subst h2
  rw[To (.inr rfl)];exact I24
 have b1:(c==32)=false:=by simpa using h1
 have b2:(c==9)=false:=by simpa using h2
 have HN:Hid (¬(c=32∨c=9)):=A6 (by omega)
 clear h1 h2;rcases big with _|_
 ·by_cases h3:c=95
  ·subst h3
   rw[Ql HN.out (by omega)]
   exact I24
  have b3:(c==95)=false:=by simpa using h3
  have HF:Hid (∀v,v=Bj c false→v=Bj c false):=A6 (fun _ h=>h)
  have H3:=A6 h3;clear h3;go_enter Tryz.func151,Tryz.ntmps151
  go_wp2_with fail
  all_goals
   go_ret
   have h3:=H3.out;refine⟨Jb ?_,rfl⟩
   first
    |exact(Ql HN.out (by omega)).symm
    |exact(eZ HN.out (by simp;omega)).symm
 ·rw[Ql HN.out (.inl rfl)]
  exact I24
theorem bT (c:Int)(big:Bool)(w:World)(n:Nat):Calls Tryz.prog 151 #[.int .i64 c,.bool big] (w.drewN n) fun e w''=>e=.returned (.int .i64 (Bj c big))∧∃m,w''=w.drewN m:=
 (Uo c big _).mono fun _ _ ⟨h1,h2⟩=>⟨h1,n,h2⟩
theorem Hj (hl:Bl w A n c l)(k:Int)(h1 : -4611686018427387904≤k)(h2:k≤4611686018427387904):
 Calls Tryz.prog 162 #[.agg #[.slice A n c,.bool big],.int .i64 k] w fun e w'=>e=.returned (.int .i64 (B8 l big k))∧An w w':=by
 have hlen:=A6 hl.len;have hnc:=hl.ncap;have hcm:=hl.nmax;unfold maxLen at hcm;by_cases hin:0≤k∧k<n
 ·obtain⟨kn,rfl⟩:=Int.eq_ofNat_of_zero_le hin.1
  obtain⟨ad,rfl,hc⟩:=hl.at_ (k:=kn) (by omega)
  have hk:Hid (B8 l big kn=Bj (gI l kn) big):=Gk (by rw[hlen.out];omega)
  have hkn:kn<n:=by omega
  have hck:=(An.alloc w (.cells #[.slice (some ad) n c,.bool big] 254)).cell (hc kn hkn);clear hc hin;rw[hk.out];go_enter Tryz.func162,Tryz.ntmps162
  go_wp2_with fail
  go_quiet ((go_at_call 151;exact bT _ _ _ _))
  go_wp2_with fail
  go_ret
  exact⟨rfl,(An.alloc _ _).to_drewN _⟩
 ·have hk:Hid (B8 l big k = -1):=La (by rw[hlen.out];omega)
  rw[hk.out];go_enter Tryz.func162,Tryz.ntmps162
  go_wp2_with fail
  all_goals
   go_ret
   exact⟨rfl,An.alloc _ _⟩
theorem Mv {k kind:Int}(h:B8 l big k=kind)(h0:0≤kind):0≤k∧k<l.length:=by
 unfold B8 at h;split at h
 ·assumption
 ·omega
theorem Pa (hl:Bl w A n c l)(k:Nat)(kind:Int)(h0:0≤kind)(h1:k≤n+1)(hn:n≤4096):
 Calls Tryz.prog 161 #[.agg #[.slice A n c,.bool big],.int .i64 k,.int .i64 1,.int .i64 kind] w fun e w'=>e=.returned (.int .i64 (Et l big kind k))∧An w w':=by
 have hlen:=A6 hl.len;have hb0:=Aq.new w 254 #[.slice A n c,.bool big];go_enter Tryz.func161,Tryz.ntmps161
 go_wp2_with fail
 go_loopw [1] (fun i wr=>∃j:Nat,k≤j∧j≤n+1∧i=.int .i64 j∧Hid (∀i:Nat,k≤i→i<j→B8 l big i=kind)∧Aq wr w.heap.size 254 #[.slice A n c,.bool big]∧An w wr) (fun i _=>n+1-(intOf i).toNat)
 case atStart=>exact⟨k,Aj _,h1,rfl,fun i h1 h2=>absurd h2 (by omega),hb0,An.alloc _ _⟩
 case round=>
  clear hb0;obtain⟨j,hj,hj2,rfl,hall,hb,he⟩:=hrel;have c0:=hb.cell 0;have c1:=hb.cell 1;simp only[Ah,Af,Ag]at c0 c1;have HK:=A6 (Hj (big:=big) (hl.ext he) j (by omega) (by omega))
  go_wp2_with fail
  refine HK.out.mono ?_
  rintro e w1 ⟨rfl,he1⟩;clear HK c0 c1;by_cases heq:B8 l big j=kind
  ·have b1:(B8 l big j==kind)=true:=by simpa using heq
   have hlt:=(Mv heq h0).2;rw[hlen.out]at hlt;have HQ:=A6 heq;clear heq;go_wp2_with fail
   go_roundw
   case rel=>exact⟨j+1,by omega,by omega,by go_num,fun i h1 h2=>by
    rcases Ay i j with h3|h3
    ·exact hall.out i h1 h3
    ·obtain rfl:i=j:=by omega
     exact HQ.out,hb.ext he1,he.trans he1⟩
   case measure=>simp[intOf];omega
  ·have b1:(B8 l big j==kind)=false:=by simpa using heq
   have HQ:=A6 heq;clear heq;go_wp2_with fail
   go_ret
   exact⟨Jb (by rw[Rb h0 hj hall.out HQ.out]),he.trans he1⟩
theorem aU (hl:Bl w A n c l)(m:Nat)(kind:Int)(h0:0≤kind)(h1:m≤n+1)(hn:n≤4096):
 Calls Tryz.prog 161 #[.agg #[.slice A n c,.bool big],.int .i64 ((m:Int)-1),.int .i64 (-1),.int .i64 kind] w fun e w'=>e=.returned (.int .i64 ((H7 l big kind m:Int)-1))∧An w w':=by
 have hlen:=A6 hl.len;have hb0:=Aq.new w 254 #[.slice A n c,.bool big];go_enter Tryz.func161,Tryz.ntmps161
 go_wp2_with fail
 go_loopw [1] (fun i wr=>∃j:Nat,j≤m∧i=.int .i64 ((j:Int)-1)∧Hid (∀i:Nat,j≤i→i<m→B8 l big i=kind)∧Aq wr w.heap.size 254 #[.slice A n c,.bool big]∧An w wr) (fun i _=>(intOf i+1).toNat)
 case atStart=>exact⟨m,Aj _,rfl,fun i h1 h2=>absurd h2 (by omega),hb0,An.alloc _ _⟩
 case round=>
  clear hb0;obtain⟨j,hj,rfl,hall,hb,he⟩:=hrel;have c0:=hb.cell 0;have c1:=hb.cell 1;simp only[Ah,Af,Ag]at c0 c1;have HK:=A6 (Hj (big:=big) (hl.ext he) ((j:Int)-1) (by omega) (by omega))
  go_wp2_with fail
  refine HK.out.mono ?_
  rintro e w1 ⟨rfl,he1⟩;clear HK c0 c1;by_cases heq:B8 l big ((j:Int)-1)=kind
  ·have b1:(B8 l big ((j:Int)-1)==kind)=true:=by simpa using heq
   have hlt:=(Mv heq h0).1;have HQ:=A6 heq;clear heq;go_wp2_with fail
   go_roundw
   case rel=>exact⟨j-1,by omega,by
    congr 1;omega,fun i h1 h2=>by
    rcases Ay i j with h3|h3
    ·obtain rfl:i=j-1:=by omega
     rw[←HQ.out];congr 1;omega
    ·exact hall.out i h3 h2,hb.ext he1,he.trans he1⟩
   case measure=>simp[intOf];omega
  ·have b1:(B8 l big ((j:Int)-1)==kind)=false:=by simpa using heq
   have HQ:=A6 heq;clear heq;go_wp2_with fail
   go_ret
   exact⟨Jb (by rw[Yx hj hall.out (.inr HQ.out)]),he.trans he1⟩
theorem jG {A:Option Addr}{n c:Nat}{k:Int}{w:World}(hnc:n≤c)(hcm:c≤maxLen):
 Calls Tryz.prog 160 #[.slice A n c,.int .i64 k] w fun e w'=>e=.returned (.int .i64 (if n>4096 then 2 else if k<0∨k>n then 1 else 0))∧w'=w:=by
 unfold maxLen at hcm;have HF:Hid (∀v:Int,(n>4096→v=2)→(n≤4096→(k<0∨k>n)→v=1)→(n≤4096→0≤k→k≤n→v=0)→v=(if n>4096 then 2 else if k<0∨k>n then 1 else 0)):=A6 (fun v h1 h2 h3=>by
  split
  ·exact h1 ‹_›
  ·split
   ·exact h2 (by omega) ‹_›
   ·exact h3 (by omega) (by omega) (by omega))
 go_enter Tryz.func160,Tryz.ntmps160
 go_wp2_with fail
 all_goals (go_ret;exact⟨rfl,rfl⟩)
theorem oO (hl:Bl w A n c l)(hn:n≤4096)(hk:k≤n):
 Calls Tryz.prog 180 #[.slice A n c,.int .i64 k,.bool big] w fun e w'=>e=.returned (.tuple #[.int .i64 (G7 l k big),.int .i64 0])∧An w w':=by
 have N0:=trivial;exact K34
theorem cC (hk:k≤l.length):
 k≤G7 l k big∧G7 l k big≤l.length∧(G7 l k big=k→k=l.length∨k<l.length∧B8 l big k≠0∧¬0<B8 l big k)∧
 ∃m,k≤m∧m≤G7 l k big∧(∀i,k≤i→i<m→B8 l big i=B8 l big k∧0<B8 l big k)∧(0<B8 l big k→B8 l big m≠B8 l big k)∧(∀i,m≤i→i<G7 l k big→B8 l big i=0)∧B8 l big (G7 l k big)≠0:=by
 unfold G7;split
 ·rename_i hp
  obtain⟨a1,a2,a3,a4⟩:=Fx (l:=l) (big:=big) (kind:=B8 l big k) (by omega) k
  have hlt:=(Mv (k:=k) rfl (show 0≤B8 l big k by omega)).2
  have hle:Et l big (B8 l big k) k≤l.length:=by rcases a4 with a4|a4<;>omega
  obtain⟨b1,b2,b3,b4⟩:=Fx (l:=l) (big:=big) (kind:=0) (by omega) (Et l big (B8 l big k) k)
  have hne:Et l big (B8 l big k) k≠k:=fun e=>a3 (by rw[e])
  refine⟨by omega,by rcases b4 with b4|b4<;>omega,fun e=>by omega,_,a1,b1,fun i h1 h2=>⟨a2 i h1 h2,hp⟩,fun _=>a3,b2,b3⟩
 ·rename_i hp
  obtain⟨b1,b2,b3,b4⟩:=Fx (l:=l) (big:=big) (kind:=0) (by omega) k
  refine⟨b1,by rcases b4 with b4|b4<;>omega,fun e=>?_,k,Nat.le_refl _,b1,fun i h1 h2=>absurd h2 (by omega),fun h=>absurd h hp,b2,b3⟩
  rcases Nat.lt_or_ge k l.length with h|h
  ·rw[e]at b3
   exact .inr ⟨h,b3,hp⟩
  ·exact .inl (by omega)
theorem aZ (c:Int)(big:Bool):0≤Bj c big:=(Mi c big).1
theorem Vt (h:k<l.length)(h0:B8 l big k≠0):0<B8 l big k:=by
 rw[Gk h]at h0 ⊢;have:=aZ (gI l k) big;omega
def wX (l:List Int)(i:Nat)(big:Bool):Prop:=i<l.length∧B8 l big i≠0∧(i=0∨B8 l big ((i:Int)-1)≠B8 l big i)
theorem sR (hk:k≤l.length):Gb l k big=0∨(0<Gb l k big∧Gb l k big<k∧wX l (Gb l k big) big):=by
 unfold Gb;obtain⟨b1,b2,b3⟩:=Jr (l:=l) (big:=big) (kind:=0) k;generalize H7 l big 0 k=j at*;split
 ·exact .inl rfl
 ·rename_i hj
  rcases b3 with b3|b3
  ·omega
  rw[show((j:Int)-1)=((j-1:Nat):Int)by omega]at b3 ⊢
  obtain⟨c1,c2,c3⟩:=Jr (l:=l) (big:=big) (kind:=B8 l big (j-1:Nat)) j;generalize H7 l big (B8 l big (j-1:Nat)) j=r at*;rcases Bo r with h0|h0
  ·exact .inl h0
  ·rcases c3 with c3|c3
   ·omega
   have hr:r<j:=by
    rcases Ay r j with h|h
    ·exact h
    ·exfalso
     apply c3
     congr 1
     omega
   have e:=c2 r (Nat.le_refl _) hr;exact .inr ⟨h0,by omega,by omega,by rw[e];exact b3,.inr (by rw[e];exact c3)⟩
theorem iO (hk:k≤l.length):
 (l.length=0∧Cu l k big=0)∨(0<l.length∧Cu l k big=l.length-1)∨(k<Cu l k big∧Cu l k big+1<l.length∧B8 l big (Cu l k big)≠B8 l big (Cu l k big+1:Nat)):=by
 unfold Cu;obtain⟨b1,b2,b3,b4⟩:=Fx (l:=l) (big:=big) (kind:=0) (by omega) (k+1)
 generalize Et l big 0 (k+1)=j at*;split
 ·rcases Bo l.length with h|h
  ·exact .inl ⟨h,by omega⟩
  ·exact .inr (.inl ⟨h,rfl⟩)
 ·rename_i hj
  have hp:=Vt (l:=l) (big:=big) (k:=j) (by omega) b3
  obtain⟨c1,c2,c3,c4⟩:=Fx (l:=l) (big:=big) (kind:=B8 l big j) (by omega) j
  generalize Et l big (B8 l big j) j=r at*;have hr:j<r:=by
   rcases Ay j r with h|h
   ·exact h
   ·exact absurd (by congr 1;omega) c3
  have e:=c2 (r-1) (by omega) (by omega)
  rcases Ay r l.length with h|h
  ·refine .inr (.inr ⟨by omega,by omega,?_⟩)
   rw[e,show r-1+1=r by omega]
   exact fun h=>c3 h.symm
  ·exact .inr (.inl ⟨by omega,by omega⟩)
theorem Mj (hk:k≤l.length):Gb l k big≤k:=by
 rcases sR (big:=big) hk with h|⟨_,h,_⟩<;>omega
theorem aF (hl:Bl w A n c l)(hn:n≤4096)(hk:k≤n):
 Calls Tryz.prog 133 #[.slice A n c,.int .i64 k,.bool big] w fun e w'=>e=.returned (.tuple #[.int .i64 (Gb l k big),.int .i64 0])∧An w w':=by
 have N1:=trivial;exact K34
theorem tW (hl:Bl w A n c l)(hn:n≤4096)(hk:k≤n):
 Calls Tryz.prog 181 #[.slice A n c,.int .i64 k,.bool big] w fun e w'=>e=.returned (.tuple #[.int .i64 (Cu l k big),.int .i64 0])∧An w w':=by
 have N2:=trivial;exact K34
structure Ga where
 f:Int
 t:Int
 x:List Int
def nI (n:Int):Int→Int→List Ga→Int
 |_,size,[]=>if 4096<size then 2 else 0
 |last,size,s::e=>
  if s.f≤last∨s.t<s.f∨n<s.t∨(s.f=s.t∧s.x.length=0)then 4
  else if 4096<s.x.length∨8192<size-(s.t-s.f)+s.x.length then 2
  else nI n s.t (size-(s.t-s.f)+s.x.length) e
def iZ (n:Int)(e:List Ga):Int:=if n<0∨4096<n then 1 else nI n (-1) n e
def good (n:Int):Int→List Ga→Prop
 |_,[]=>True
 |last,s::e=>last<s.f∧s.f≤s.t∧s.t≤n∧¬(s.f=s.t∧s.x.length=0)∧s.x.length≤4096∧good n s.t e
def Zr (size:Int):List Ga→Prop
 |[]=>size≤4096
 |s::e=>size-(s.t-s.f)+s.x.length≤8192∧Zr (size-(s.t-s.f)+s.x.length) e
theorem Ya {n:Int}:∀{e:List Ga} {last size:Int},nI n last size e=0↔good n last e∧Zr size e
 |[],last,size=>by
  simp only[nI,good,Zr,true_and];split<;>omega
 |s::e,last,size=>by
  simp only[nI,good,Zr];split
  ·simp only[Int.reduceEq,false_iff]
   omega
  ·split
   ·simp only[Int.reduceEq,false_iff]
    omega
   ·rw[Ya]
    constructor
    ·rintro⟨h1,h2⟩
     exact⟨⟨by omega,by omega,by omega,by omega,by omega,h1⟩,by omega,h2⟩
    ·rintro⟨⟨_,_,_,_,_,h1⟩,_,h2⟩
     exact⟨h1,h2⟩
theorem Sx {n:Int}{e:List Ga}:iZ n e=0↔0≤n∧n≤4096∧good n (-1) e∧Zr n e:=by
 unfold iZ;split
 ·constructor
  ·intro h;cases h
  ·omega
 ·rw[Ya]
  constructor
  ·rintro⟨h1,h2⟩;exact⟨by omega,by omega,h1,h2⟩
  ·rintro⟨_,_,h1,h2⟩;exact⟨h1,h2⟩
def Zu (l:List Int):Nat→List Ga→List Int
 |at_,[]=>l.drop at_
 |at_,s::e=>(l.drop at_).take (s.f.toNat-at_)++s.x++Zu l s.t.toNat e
theorem jL (l:List Int){a b:Nat}(h:a≤b)(hb:b≤l.length):((l.drop a).take (b-a)).length=b-a:=by
 rw[List.length_take,List.length_drop];omega
theorem wN (l:List Int){a b:Nat}(h:a≤b):(l.drop a).take (b-a)++l.drop b=l.drop a:=by
 have:l.drop b=(l.drop a).drop (b-a):=by rw[List.drop_drop];congr 1;omega
 rw[this,List.take_append_drop]
def gE (e:List Ga)(k:Nat):Ga:=e[k]?.getD ⟨0,0,[]⟩
def aC (w:World)(xs:List Value)(e:List Ga):Prop:=
 xs.length=e.length*3∧∀i,i<e.length→∃B m d,xs[i*3]? = some (.int .i64 (gE e i).f)∧xs[i*3+1]? = some (.int .i64 (gE e i).t)∧xs[i*3+2]? = some (.slice B m d)∧Bl w B m d (gE e i).x∧(B=none→d=0)
def J9 (w:World)(A:Option Addr)(n c:Nat)(e:List Ga):Prop:=∃xs,Rd w 3 A n c xs∧aC w xs e
theorem aC.ext {w w':World}{xs:List Value}{e:List Ga}(h:aC w xs e)(he:An w w'):aC w' xs e:=
 ⟨h.1,fun i hi=>let ⟨B,m,d,h1,h2,h3,h4,h5⟩:=h.2 i hi;⟨B,m,d,h1,h2,h3,h4.ext he,h5⟩⟩
theorem J9.ext {w w':World}{e:List Ga}(h:J9 w A n c e)(he:An w w'):J9 w' A n c e:=
 let ⟨xs,h1,h2⟩:=h;⟨xs,h1.ext he,h2.ext he⟩
theorem J9.len {e:List Ga}(h:J9 w A n c e):e.length=n:=by
 obtain⟨xs,h1,h2⟩:=h;have:=h1.len;have:=h2.1;omega
theorem J9.ncap {e:List Ga}(h:J9 w A n c e):n≤c:=let ⟨xs,h1,h2⟩:=h;h1.ncap
theorem J9.nmax {e:List Ga}(h:J9 w A n c e):c≤maxLen:=let ⟨xs,h1,h2⟩:=h;h1.nmax
theorem J9.at_ {e:List Ga}(h:J9 w A n c e)(hk:k<n):
 ∃ad B m d,A=some ad∧w.cell? (ad.add (k*3))=some (.int .i64 (gE e k).f)∧w.cell? ⟨(ad.add (k*3)).block,(ad.add (k*3)).off+1,none⟩=some (.int .i64 (gE e k).t)∧w.cell? ⟨(ad.add (k*3)).block,(ad.add (k*3)).off+2,none⟩=some (.slice B m d)∧Bl w B m d (gE e k).x∧(B=none→d=0):=by
 have hl:=h.len;obtain⟨xs,h1,h2⟩:=h;obtain⟨ad,hA,hc⟩:=h1.at_ hk;obtain⟨B,m,d,k1,k2,k3,k4,k5⟩:=h2.2 k (by omega)
 refine⟨ad,B,m,d,hA,hc _ _ k1,?_,?_,k4,k5⟩
 ·have:=hc _ _ k2
  rw[←Fr]at this;exact this
 ·have:=hc _ _ k3
  rw[←Fr]at this;exact this
theorem J9.none_ (w:World):J9 w none 0 0 []:=⟨[],Rd.none_ w 3,rfl,fun i hi=>absurd hi (by simp)⟩
def Cw (c:Int):Int:=if c=40 then 41 else if c=91 then 93 else if c=123 then 125 else if c=41 then 40 else if c=93 then 91 else if c=125 then 123 else 0
def Mo (c:Int):Bool:=decide (c=41∨c=93∨c=125)
theorem iD {c:Int}(h:Cw c≠0):Cw (Cw c)=c:=by
 unfold Cw at h ⊢
 repeat' split at h
 all_goals first|(subst_vars;rfl)|simp at h
theorem zO (c:Int):0≤Cw c∧Cw c≤125:=by
 unfold Cw
 repeat' split
 all_goals omega
abbrev yA:=(Int→List Nat)×(Nat→Int)
def Dy (p:Nat→Int)(i:Nat)(v:Int):Nat→Int:=fun x=>if x=i then v else p x
def Le (st:Int→List Nat)(c:Int)(v:List Nat):Int→List Nat:=fun x=>if x=c then v else st x
def Nc (c:Int)(i:Nat)(s:yA):yA:=
 if Cw c=0 then(s.1,Dy s.2 i (-1))
 else if Mo c=false then(Le s.1 c (s.1 c++[i]),Dy s.2 i (-1))
 else match (s.1 (Cw c)).getLast? with
  |none=>(s.1,Dy s.2 i (-1))
  |some k=>(Le s.1 (Cw c) (s.1 (Cw c)).dropLast,Dy (Dy s.2 i k) k i)
def Ev (l:List Int):Nat→yA
 |0=>(fun _=>[],fun _=>0)
 |i+1=>Nc (gI l i) i (Ev l i)
theorem Q6 {l:List Nat}(h:l.getLast? = some k):l.dropLast++[k]=l:=by
 obtain⟨h1,h2⟩:=List.getLast?_eq_some_iff.1 h;rw[h2];simp
structure DI (l:List Int)(i:Nat)(st:Int→List Nat)(p:Nat→Int):Prop where
 sorted:∀c,(st c).Pairwise (· < ·)
 mem:∀c,∀k∈st c,k<i∧gI l k=c∧Cw c≠0∧Mo c=false∧p k = -1
 part:∀j,j<i→p j = -1∨∃m:Nat,p j=m∧m<i∧p m=j∧m≠j∧Cw (gI l j)=gI l m∧Mo (gI l j)=decide (m<j)∧Cw (gI l j)≠0
 apart:∀x y:Nat,x<y→y<i→p x=y→∀k∈st (gI l x),k<x∨y<k
 nest:∀x y u v:Nat,x<y→y<i→u<v→v<i→p x=y→p u=v→gI l x=gI l u→x<u→u<y→v<y
 none_:∀j,j<i→p j = -1→Cw (gI l j)≠0→Mo (gI l j)=false→j∈st (gI l j)
theorem DI.start (l:List Int):DI l 0 (Ev l 0).1 (Ev l 0).2 where
 sorted:=fun _=>.nil
 mem:=fun _ _ h=>by cases h
 part:=fun _ h=>absurd h (by omega)
 apart:=fun _ _ _ h=>absurd h (by omega)
 nest:=fun _ _ _ _ _ h=>absurd h (by omega)
 none_:=fun _ h=>absurd h (by omega)
theorem DI.plain (h:DI l i st p)(hc:Cw (gI l i)=0∨Mo (gI l i)=true):DI l (i+1) st (Dy p i (-1)):=by
 have hu:∀j,j<i→Dy p i (-1) j=p j:=fun j hj=>if_neg (by omega)
 have hi:Dy p i (-1) i = -1:=if_pos rfl;refine⟨h.sorted,?_,?_,?_,?_,?_⟩
 ·intro c k hk
  obtain⟨h1,h2,h3,h4,h5⟩:=h.mem c k hk;exact⟨by omega,h2,h3,h4,by rw[hu k h1];exact h5⟩
 ·intro j hj
  rcases Ay j i with h1|h1
  ·show Dy p i (-1) j = -1∨_
   rcases h.part j h1 with h2|⟨m,h2,h3,h4,h5⟩
   ·exact .inl (by rw[hu j h1];exact h2)
   ·exact .inr ⟨m,by rw[hu j h1];exact h2,by omega,by rw[hu m h3];exact h4,h5⟩
  ·obtain rfl:j=i:=by omega
   exact .inl hi
 ·intro x y hxy hy hp k hk
  rcases Ay y i with h1|h1
  ·exact h.apart x y hxy h1 (by rw[←hu x (by omega)];exact hp) k hk
  ·obtain rfl:y=i:=by omega
   have hp':p x=y:=by rw[←hu x hxy];exact hp
   rcases h.part x hxy with h2|⟨m,h2,h3,_⟩
   ·rw[h2]at hp';omega
   ·rw[h2]at hp';omega
 ·intro x y u v hxy hy huv hv hp hq he hxu huy
  have hx:x<i:=by omega
  have hu':u<i:=by omega
  have hp':p x=y:=by rw[←hu x hx];exact hp
  have hq':p u=v:=by rw[←hu u hu'];exact hq
  have hy':y<i:=by
   rcases h.part x hx with h2|⟨m,h2,h3,_⟩<;>omega
  have hv':v<i:=by
   rcases h.part u hu' with h2|⟨m,h2,h3,_⟩<;>omega
  exact h.nest x y u v hxy hy' huv hv' hp' hq' he hxu huy
 ·intro j hj h1 h2 h3
  rcases Ay j i with h4|h4
  ·exact h.none_ j h4 (by rw[←hu j h4];exact h1) h2 h3
  ·obtain rfl:j=i:=by omega
   rcases hc with hc|hc
   ·exact absurd hc h2
   ·rw[hc]at h3;cases h3
theorem DI.push (h:DI l i st p)(ho:Cw (gI l i)≠0)(hc:Mo (gI l i)=false):DI l (i+1) (Le st (gI l i) (st (gI l i)++[i])) (Dy p i (-1)):=by
 have hu:∀j,j<i→Dy p i (-1) j=p j:=fun j hj=>if_neg (by omega)
 have hi:Dy p i (-1) i = -1:=if_pos rfl;have hmem:∀c k,k∈Le st (gI l i) (st (gI l i)++[i]) c↔k∈st c∨(c=gI l i∧k=i):=by
  intro c k;unfold Le;by_cases e:c=gI l i
  ·subst e;simp
  ·simp[e]
 have hlt:∀x y:Nat,x<i→p x=y→x<y→y<i:=by
  intro x y hx hp hxy;rcases h.part x hx with h2|⟨m,h2,h3,_⟩<;>omega
 refine⟨?_,?_,?_,?_,?_,?_⟩
 ·intro c
  show(Le st (gI l i) (st (gI l i)++[i]) c).Pairwise _
  unfold Le;by_cases e:c=gI l i
  ·subst e
   rw[if_pos rfl,List.pairwise_append];exact⟨h.sorted _,by simp,fun a ha b hb=>by
    obtain rfl:=Ek.1 hb;exact(h.mem _ a ha).1⟩
  ·rw[if_neg e];exact h.sorted c
 ·intro c k hk
  rcases(hmem c k).1 hk with h1|⟨rfl,rfl⟩
  ·obtain⟨h1,h2,h3,h4,h5⟩:=h.mem c k h1
   exact⟨by omega,h2,h3,h4,by show Dy p i (-1) k = -1;rw[hu k h1];exact h5⟩
  ·exact⟨by omega,rfl,ho,hc,hi⟩
 ·intro j hj
  show Dy p i (-1) j = -1∨_
  rcases Ay j i with h1|h1
  ·rcases h.part j h1 with h2|⟨m,h2,h3,h4,h5⟩
   ·exact .inl (by rw[hu j h1];exact h2)
   ·exact .inr ⟨m,by show Dy p i (-1) j=m;rw[hu j h1];exact h2,by omega,by show Dy p i (-1) m=j;rw[hu m h3];exact h4,h5⟩
  ·obtain rfl:j=i:=by omega
   exact .inl hi
 ·intro x y hxy hy hp k hk
  have hx:x<i:=by omega
  have hp':p x=y:=by rw[←hu x hx];exact hp
  have hy':=hlt x y hx hp' hxy;rcases(hmem _ k).1 hk with h1|⟨_,rfl⟩
  ·exact h.apart x y hxy hy' hp' k h1
  ·exact .inr hy'
 ·intro x y u v hxy hy huv hv hp hq he hxu huy
  have hx:x<i:=by omega
  have hu':u<i:=by omega
  have hp':p x=y:=by rw[←hu x hx];exact hp
  have hq':p u=v:=by rw[←hu u hu'];exact hq
  exact h.nest x y u v hxy (hlt x y hx hp' hxy) huv (hlt u v hu' hq' huv) hp' hq' he hxu huy
 ·intro j hj h1 h2 h3
  rcases Ay j i with h4|h4
  ·exact(hmem _ j).2 (.inl (h.none_ j h4 (by rw[←hu j h4];exact h1) h2 h3))
  ·obtain rfl:j=i:=by omega
   exact(hmem _ j).2 (.inr ⟨rfl,rfl⟩)
theorem DI.pop (h:DI l i st p)(ho:Cw (gI l i)≠0)(hc:Mo (gI l i)=true)(hk:(st (Cw (gI l i))).getLast? = some k):
 DI l (i+1) (Le st (Cw (gI l i)) (st (Cw (gI l i))).dropLast) (Dy (Dy p i k) k i)∧k<i:=by
 have hsplit:st (Cw (gI l i))=(st (Cw (gI l i))).dropLast++[k]:=(Q6 hk).symm;have hkm:k∈st (Cw (gI l i)):=by rw[hsplit];simp
 obtain⟨hki,hkc,_,hkclo,hkp⟩:=h.mem _ k hkm;have hlast:∀a∈(st (Cw (gI l i))).dropLast,a<k:=by
  have:=h.sorted (Cw (gI l i));rw[hsplit,List.pairwise_append]at this;intro a ha;exact this.2.2 a ha k (by simp)
 have hu:∀j,j<i→j≠k→Dy (Dy p i k) k i j=p j:=fun j hj hne=>by
  unfold Dy;rw[if_neg hne,if_neg (by omega)]
 have huk:Dy (Dy p i k) k i k=i:=if_pos rfl;have hui:Dy (Dy p i k) k i i=k:=by unfold Dy;rw[if_neg (by omega),if_pos rfl]
 have hnk:∀j m:Nat,j<i→p j=m→j≠k→m≠k:=by
  intro j m hj hp hne hmk;subst hmk;rcases h.part j hj with h2|⟨m',h2,h3,h4,h5⟩
  ·omega
  ·obtain rfl:m'=m:=by omega
   rw[hkp]at h4;omega
 have hmem:∀c a,a∈Le st (Cw (gI l i)) (st (Cw (gI l i))).dropLast c→a∈st c∧a≠k:=by
  intro c a ha;unfold Le at ha;by_cases e:c=Cw (gI l i)
  ·subst e
   rw[if_pos rfl]at ha;have h1:=hlast a ha;exact⟨by rw[hsplit];simp[ha],by omega⟩
  ·rw[if_neg e]at ha
   refine⟨ha,fun e2=>e ?_⟩
   subst e2;rw[←(h.mem c a ha).2.1,hkc]
 refine⟨⟨?_,?_,?_,?_,?_,?_⟩,hki⟩
 ·intro c
  show(Le st (Cw (gI l i)) (st (Cw (gI l i))).dropLast c).Pairwise _
  unfold Le;by_cases e:c=Cw (gI l i)
  ·subst e
   rw[if_pos rfl];exact(h.sorted _).sublist (List.dropLast_sublist _)
  ·rw[if_neg e];exact h.sorted c
 ·intro c a ha
  obtain⟨h1,h2⟩:=hmem c a ha;obtain⟨h3,h4,h5,h6,h7⟩:=h.mem c a h1;exact⟨by omega,h4,h5,h6,by show Dy (Dy p i k) k i a = -1;rw[hu a h3 h2];exact h7⟩
 ·intro j hj
  show Dy (Dy p i k) k i j = -1∨_
  by_cases hjk:j=k
  ·subst hjk
   refine .inr ⟨i,huk,by omega,hui,by omega,?_,?_,?_⟩
   ·rw[hkc];exact iD ho
   ·rw[hkc,hkclo];simp;omega
   ·rw[hkc,iD ho]
    intro e;rw[e]at ho;exact ho rfl
  ·rcases Ay j i with h1|h1
   ·rcases h.part j h1 with h2|⟨m,h2,h3,h4,h5⟩
    ·exact .inl (by rw[hu j h1 hjk];exact h2)
    ·exact .inr ⟨m,by show Dy (Dy p i k) k i j=m;rw[hu j h1 hjk];exact h2,by omega,by show Dy (Dy p i k) k i m=j;rw[hu m h3 (hnk j m h1 h2 hjk)];exact h4,h5⟩
   ·obtain rfl:j=i:=by omega
    refine .inr ⟨k,hui,by omega,huk,by omega,hkc.symm,?_,ho⟩
    rw[hc];simp;omega
 ·intro x y hxy hy hp a ha
  obtain⟨ha1,ha2⟩:=hmem _ a ha;by_cases hxk:x=k
  ·subst hxk
   left
   have e:gI l x=Cw (gI l i):=hkc;unfold Le at ha;rw[if_pos e]at ha;exact hlast a ha
  ·have hx:x<i:=by omega
   have hp':p x=y:=by rw[←hu x hx hxk];exact hp
   have hy':y<i:=by
    rcases h.part x hx with h2|⟨m,h2,h3,_⟩<;>omega
   exact h.apart x y hxy hy' hp' a ha1
 ·intro x y u v hxy hy huv hv hp hq he hxu huy
  have hx:x<i:=by omega
  have hul:u<i:=by omega
  by_cases hxk:x=k
  ·-- the new pair is the outer one
   subst hxk;have:y=i:=by have:=huk;rw[show Dy (Dy p i x) x i x=y from hp]at this;omega
   subst this;have hq':p u=v:=by rw[←hu u hul (by omega)];exact hq
   rcases h.part u hul with h2|⟨m,h2,h3,_⟩<;>omega
  ·have hp':p x=y:=by rw[←hu x hx hxk];exact hp
   have hy':y<i:=by
    rcases h.part x hx with h2|⟨m,h2,h3,_⟩<;>omega
   by_cases huk':u=k
   ·-- the new pair is the inner one: it can't be
    subst huk';have:=h.apart x y hxy hy' hp' u (by rw[he,hkc];exact hkm)
    omega
   ·have hq':p u=v:=by rw[←hu u hul huk'];exact hq
    have hv':v<i:=by
     rcases h.part u hul with h2|⟨m,h2,h3,_⟩<;>omega
    exact h.nest x y u v hxy hy' huv hv' hp' hq' he hxu huy
 ·intro j hj h1 h2 h3
  have hjk:j≠k:=by
   intro e;subst e;rw[show Dy (Dy p i j) j i j=(-1:Int)from h1]at huk
   omega
  rcases Ay j i with h4|h4
  ·have h5:=h.none_ j h4 (by rw[←hu j h4 hjk];exact h1) h2 h3
   show j∈Le st (Cw (gI l i)) (st (Cw (gI l i))).dropLast (gI l j)
   unfold Le;by_cases e:gI l j=Cw (gI l i)
   ·rw[if_pos e]
    rw[e,hsplit]at h5;rcases List.mem_append.1 h5 with h6|h6
    ·exact h6
    ·exact absurd (Ek.1 h6) hjk
   ·rw[if_neg e];exact h5
  ·obtain rfl:j=i:=by omega
   rw[hc]at h3;cases h3
theorem Tp {c:Int}{s:yA}(h:Cw c=0):Nc c i s=(s.1,Dy s.2 i (-1)):=by unfold Nc;rw[if_pos h]
theorem Vy {c:Int}{s:yA}(h:Cw c≠0)(hc:Mo c=false):Nc c i s=(Le s.1 c (s.1 c++[i]),Dy s.2 i (-1)):=by unfold Nc;rw[if_neg h,if_pos hc]
theorem Vz {c:Int}{s:yA}(h:Cw c≠0)(hc:Mo c=true)(he:s.1 (Cw c)=[]):Nc c i s=(s.1,Dy s.2 i (-1)):=by
 unfold Nc;rw[if_neg h,if_neg (by rw[hc];simp),he];rfl
theorem Y7 {c:Int}{s:yA}(h:Cw c≠0)(hc:Mo c=true)(he:(s.1 (Cw c)).getLast? = some k):Nc c i s=(Le s.1 (Cw c) (s.1 (Cw c)).dropLast,Dy (Dy s.2 i k) k i):=by
 unfold Nc;rw[if_neg h,if_neg (by rw[hc];simp),he]
theorem Z4 (l:List Int):∀i,DI l i (Ev l i).1 (Ev l i).2
 |0=>DI.start l
 |i+1=>by
  have h:=Z4 l i
  show DI l (i+1) (Nc (gI l i) i (Ev l i)).1 (Nc (gI l i) i (Ev l i)).2
  by_cases h1:Cw (gI l i)=0
  ·rw[Tp h1];exact h.plain (.inl h1)
  ·cases hc:Mo (gI l i)with
   |false=>rw[Vy h1 hc];exact h.push h1 hc
   |true=>
    cases he:((Ev l i).1 (Cw (gI l i))).getLast? with
    |none=>rw[Vz h1 hc (List.getLast?_eq_none_iff.1 he)];exact h.plain (.inr hc)
    |some k=>rw[Y7 h1 hc he];exact(h.pop h1 hc he).1
def Kl (l:List Int)(i:Nat):List Int:=(List.range l.length).map fun j=>if j<i then(Ev l i).2 j else 0
def Dd (l:List Int):List Int:=(List.range l.length).map fun j=>(Ev l l.length).2 j
theorem V5 (l:List Int)(i:Nat):(Kl l i).length=l.length:=by simp[Kl]
theorem eJ (l:List Int):(Dd l).length=l.length:=by simp[Dd]
theorem pN (l:List Int):Kl l l.length=Dd l:=by
 apply List.ext_getElem
 ·simp[Kl,Dd]
 ·intro j h1 h2
  simp[Kl]at h1;simp[Kl,Dd,h1]
theorem eG (l:List Int):Kl l 0=List.replicate l.length 0:=by
 apply List.ext_getElem
 ·simp[Kl]
 ·intro j h1 h2;simp[Kl]
theorem Qi (h:(Ev l (i+1)).2=Dy (Ev l i).2 i (-1)):Kl l (i+1)=(Kl l i).set i (-1):=by
 apply List.ext_getElem
 ·simp[Kl]
 ·intro j h1 h2
  rw[List.getElem_set];simp[Kl,h,Dy];by_cases e:i=j
  ·subst e;simp
  ·rw[if_neg e]
   by_cases h3:j<i
   ·rw[if_pos (by omega),if_pos h3,if_neg (by omega)]
   ·rw[if_neg (by omega),if_neg h3]
theorem pM (hk:k<i)(h:(Ev l (i+1)).2=Dy (Dy (Ev l i).2 i k) k i):Kl l (i+1)=(((Kl l i).set i (-1)).set i k).set k i:=by
 apply List.ext_getElem
 ·simp[Kl]
 ·intro j h1 h2
  rw[List.getElem_set,List.getElem_set,List.getElem_set];simp[Kl,h,Dy];by_cases e:k=j
  ·subst e;simp;omega
  ·rw[if_neg e]
   by_cases e2:i=j
   ·subst e2;simp;omega
   ·rw[if_neg e2]
    by_cases h3:j<i
    ·rw[if_pos (by omega),if_pos h3,if_neg (by omega),if_neg (by omega),if_neg e2]
    ·rw[if_neg (by omega),if_neg h3,if_neg e2]
theorem So {j:Nat}(h:j<l.length):gI (Dd l) j=(Ev l l.length).2 j:=by simp[gI,Dd,h]
def Ui (l:List Int)(k i m:Nat):Prop:=k≤i∧i<l.length∧Cw (gI l i)≠0∧(∀j,k≤j→j<i→Cw (gI l j)=0)∧gI (Dd l) i=(m:Int)∧m<l.length
def noP (l:List Int)(k:Nat):Prop:=∀i,k≤i→i<l.length→Cw (gI l i)≠0→(∀j,k≤j→j<i→Cw (gI l j)=0)→gI (Dd l) i<0
theorem fH {k i m i' m':Nat}(h:Ui l k i m)(h':Ui l k i' m'):i=i'∧m=m':=by
 obtain⟨h1,h2,h3,h4,h5,h6⟩:=h;obtain⟨g1,g2,g3,g4,g5,g6⟩:=h';have e:i=i':=by
  rcases Nat.lt_trichotomy i i' with h|h|h
  ·exact absurd (g4 i h1 h) h3
  ·exact h
  ·exact absurd (h4 i' g1 h) g3
 subst e;exact⟨rfl,by omega⟩
theorem Xy {k i m:Nat}(h:Ui l k i m):¬noP l k:=fun h'=>by
 obtain⟨h1,h2,h3,h4,h5,h6⟩:=h;have:=h' i h1 h2 h3 h4;omega
end
