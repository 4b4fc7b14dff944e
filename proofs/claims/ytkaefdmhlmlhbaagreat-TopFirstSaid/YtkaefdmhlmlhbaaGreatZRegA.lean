/-
  Part ZRegA.
-/
import Derived.Test.YtkaefdmhlmlhbaaGreatZClone
import Derived.Laws.CopyOwn
import Derived.Laws.Tables
import Derived.Laws.Rows
set_option maxRecDepth 100000
set_option maxHeartbeats 16000000
set_option linter.unusedVariables false
set_option linter.unusedSimpArgs false
namespace Go.Proofs.YtkaefdmhlmlhbaaGreat
open Go.RowKit
open _root_.Go.Proofs.Tryz
open _root_.List renaming getElem?_append_left→Bs
open _root_.Nat renaming le_refl→Aj
open Value renaming slice→Ak
section
variable {cs a:Array Value}{w:World}{v:Value}{k:Int}{i:Nat}
def Mf (w:World)(v:Value)(l:List Int):Prop:=∃A n c,v=.slice A n c∧Bj w A n c l∧(A=none→c=0)∧n*8≤140737488355328
def Bl (w:World)(b:Nat)(v:Value)(l:List Int):Prop:=∃A n c,v=.slice A n c∧Ba w b A n c l∧(A=none→c=0)∧n*8≤140737488355328
def Lp (w:World)(cs:Array Value)(rs:Nat→List Int):Prop:=cs.size=27∧∀i,i<27→∃v,cs[i]? = some v∧Mf w v (rs i)
def Fd (w:World)(b:Nat)(cs:Array Value)(rs:Nat→List Int):Prop:=cs.size=27∧∀i,i<27→∃v,cs[i]? = some v∧Bl w b v (rs i)
section
variable {w w':World} {v:Value} {l:List Int} {b:Nat} {cs:Array Value} {rs:Nat→List Int}
theorem Mf.ext (h:Mf w v l)(he:An w w'):Mf w' v l:=by
 exact I117
theorem Bl.ext (h:Bl w b v l)(he:An w w'):Bl w' b v l:=by
 exact I117
theorem Bl.sl (h:Bl w b v l):Mf w v l:=by
 obtain⟨A,n,c,rfl,h1,h2,h3⟩:=h;exact⟨A,n,c,rfl,h1.ints,h2,h3⟩
theorem Bl.lower {b':Nat}(h:Bl w b v l)(hb:b'≤b):Bl w b' v l:=by
 obtain⟨A,n,c,rfl,h1,h2,h3⟩:=h;exact⟨A,n,c,rfl,Bd.lower h1 hb,h2,h3⟩
theorem Bl.nil (w:World)(b:Nat):Bl w b (.slice none 0 0) []:=⟨none,0,0,rfl,Ba.nil _ _,fun _=>rfl,by omega⟩
theorem Bl.setCell (h:Bl w b v l){p:Addr}(hp:p.block<b)(u:Value):Bl (w.setCell p u) b v l:=by
 obtain⟨A,n,c,rfl,h1,h2,h3⟩:=h;exact⟨A,n,c,rfl,Bd.setCell h1 hp u,h2,h3⟩
theorem Bd.setRow {base e z n c:Nat}{A:Option Addr}{xs:List Value}(h:Bd w base e z A n c xs){g:Nat}(hg:g<base)(us:Array Value):Bd (w.setRow g us) base e z A n c xs:=by
 obtain⟨h1,h2⟩:=h;refine⟨h1,?_⟩
 rcases h2 with h2|⟨g',cap,cur,hv,hb,cr,r⟩
 ·exact .inl h2
 ·exact .inr ⟨g',cap,cur,hv,hb,(setRow_other w g g' us (by omega)).trans cr,r⟩
theorem Bl.setRow (h:Bl w b v l){g:Nat}(hg:g<b)(us:Array Value):Bl (w.setRow g us) b v l:=by
 obtain⟨A,n,c,rfl,h1,h2,h3⟩:=h;exact⟨A,n,c,rfl,Bd.setRow h1 hg us,h2,h3⟩
theorem Lp.ext (h:Lp w cs rs)(he:An w w'):Lp w' cs rs:=⟨h.1,fun i hi=>by obtain⟨v,h1,h2⟩:=h.2 i hi;exact⟨v,h1,h2.ext he⟩⟩
theorem Fd.ext (h:Fd w b cs rs)(he:An w w'):Fd w' b cs rs:=⟨h.1,fun i hi=>by obtain⟨v,h1,h2⟩:=h.2 i hi;exact⟨v,h1,h2.ext he⟩⟩
theorem Fd.regs (h:Fd w b cs rs):Lp w cs rs:=⟨h.1,fun i hi=>by obtain⟨v,h1,h2⟩:=h.2 i hi;exact⟨v,h1,h2.sl⟩⟩
theorem Fd.lower {b':Nat}(h:Fd w b cs rs)(hb:b'≤b):Fd w b' cs rs:=⟨h.1,fun i hi=>by obtain⟨v,h1,h2⟩:=h.2 i hi;exact⟨v,h1,h2.lower hb⟩⟩
theorem Fd.setRow (h:Fd w b cs rs){g:Nat}(hg:g<b)(us:Array Value):Fd (w.setRow g us) b cs rs:=⟨h.1,fun i hi=>by obtain⟨v,h1,h2⟩:=h.2 i hi;exact⟨v,h1,h2.setRow hg us⟩⟩
theorem Fd.setCell (h:Fd w b cs rs){p:Addr}(hp:p.block<b)(u:Value):Fd (w.setCell p u) b cs rs:=⟨h.1,fun i hi=>by obtain⟨v,h1,h2⟩:=h.2 i hi;exact⟨v,h1,h2.setCell hp u⟩⟩
theorem Lp.one (h:Lp w cs rs):cs.all (·.oneCell')=true:=by
 rw[Array.all_eq_true];intro i hi;obtain⟨v,h1,A,n,c,rfl,_⟩:=h.2 i (by have:=h.1;omega)
 rw[Array.getElem?_eq_getElem hi]at h1;injection h1 with h1;rw[h1]
 rfl
theorem An.setRow {w x:World}(h:An w x){g:Nat}(hg:w.heap.size≤g)(us:Array Value):An w (x.setRow g us):=below_setRow h hg us
theorem Aq.setRow {g:Nat}{t:TypeId}{old:Array Value}(h:Aq w g t old)(us:Array Value):Aq (w.setRow g us) g t us:=setRow_heap w g old us t _ h
theorem Aq.setRow_other {g g':Nat}{t:TypeId}{old:Array Value}(h:Aq w g t old)(us:Array Value)(ai:g≠g'):Aq (w.setRow g' us) g t old:=(Go.setRow_other w g' g us ai).trans h
end
theorem Bn {g g':Nat}{t:TypeId}(h:Aq w g t cs)(ai:g'≠g)(i:Nat)(u:Value):Aq (w.setCell ⟨g',i,none⟩ u) g t cs:=by
 unfold Aq at h ⊢;simp[World.setCell,Array.getElem?_modify,h,ai]
def Pc (a:Array Value)(j:Nat):Option Nat:=(a[j]?.getD (.slice none 0 0)).ownBlock
def Vp (a:Array Value)(n:Nat):Prop:=∀j k g,j<n→k<n→j≠k→Pc a j=some g→Pc a k≠some g
theorem J1 (h:i<a.size):Pc (a.setIfInBounds i v) i=v.ownBlock:=by
 unfold Pc;rw[Array.getElem?_setIfInBounds_self,if_pos h];rfl
theorem Kv {i j:Nat}(h:i≠j):Pc (a.setIfInBounds i v) j=Pc a j:=by
 unfold Pc;rw[Array.getElem?_setIfInBounds_ne h]
theorem Bl.blk {b:Nat}{l:List Int}(h:Bl w b v l):∀g,v.ownBlock=some g→b≤g∧g<w.heap.size:=by
 obtain⟨A,n,c,rfl,h1,_⟩:=h;exact Bd.blk h1
theorem Vp.snoc {i m:Nat}(h:Vp a i)(hi:i<a.size)(hold:∀j g,j<i→Pc a j=some g→g<m)(jz:∀g,v.ownBlock=some g→m≤g):Vp (a.setIfInBounds i v) (i+1):=by
 intro j k g hj hk qm h1 h2;by_cases ig:j=i
 ·subst ig
  rw[J1 hi]at h1;rw[Kv qm]at h2;have:=jz g h1;have:=hold k g (by omega) h2
  omega
 ·rw[Kv (fun e=>ig e.symm)]at h1
  by_cases JD:k=i
  ·subst JD
   rw[J1 hi]at h2;have:=jz g h2;have:=hold j g (by omega) h1
   omega
  ·rw[Kv (fun e=>JD e.symm)]at h2
   exact h j k g (by omega) (by omega) qm h1 h2
def Cb:Array Value:=Array.replicate 27 (.slice none 0 0)
theorem Xl (w:World)(b:Nat):Fd w b Cb (fun _=>[]):=⟨rfl,fun i hi=>⟨.slice none 0 0,by unfold Cb;rw[Array.getElem?_replicate,if_pos hi],Bl.nil _ _⟩⟩
def gL (ls:List (List Int))(i:Nat):List Int:=ls[i]?.getD []
def fI (w:World)(xs:List Value)(ls:List (List Int)):Prop:=xs.length=ls.length∧∀i,i<ls.length→∃v,xs[i]? = some v∧Mf w v (gL ls i)
def Ym (w:World)(A:Option Addr)(n c:Nat)(ls:List (List Int)):Prop:=∃xs,Rd w 1 A n c xs∧fI w xs ls
def Ud (w:World)(b:Nat)(row:Option Nat)(xs:List Value)(ls:List (List Int)):Prop:=xs.length=ls.length∧∀i,i<ls.length→∃v,xs[i]? = some v∧Bl w b v (gL ls i)∧(v.ownBlock=none∨v.ownBlock≠row)
def Hn (w:World)(b:Nat)(A:Option Addr)(n c:Nat)(ls:List (List Int)):Prop:=∃xs,Bd w b 25 1 A n c xs∧Ud w b (Ak A n c).ownBlock xs ls∧(A=none→c=0)
section
variable {w w':World} {A:Option Addr} {n c b:Nat} {ls:List (List Int)} {xs:List Value} {row:Option Nat}
theorem fI.ext (h:fI w xs ls)(he:An w w'):fI w' xs ls:=⟨h.1,fun i hi=>by obtain⟨v,h1,h2⟩:=h.2 i hi;exact⟨v,h1,h2.ext he⟩⟩
theorem fI.one (h:fI w xs ls):∀u∈xs,u.oneCell'=true:=by
 intro u hu;obtain⟨i,hi,rfl⟩:=List.mem_iff_getElem.1 hu;obtain⟨v,h1,A,n,c,rfl,_⟩:=h.2 i (by rw[←h.1];exact hi)
 rw[List.getElem?_eq_getElem hi]at h1;injection h1 with h1;rw[h1];rfl
theorem Ym.ext (h:Ym w A n c ls)(he:An w w'):Ym w' A n c ls:=by obtain⟨xs,h1,h2⟩:=h;exact⟨xs,Rd.ext h1 he,h2.ext he⟩
theorem Ym.len (h:Ym w A n c ls):ls.length=n:=by obtain⟨xs,h1,h2⟩:=h;have:=h1.len;rw[h2.1]at this;omega
theorem Ym.ncap (h:Ym w A n c ls):n≤c:=by obtain⟨xs,h1,h2⟩:=h;exact Rd.ncap h1
theorem Ym.nmax (h:Ym w A n c ls):c≤maxLen:=by obtain⟨xs,h1,h2⟩:=h;exact Rd.nmax h1
theorem Ym.at_ (h:Ym w A n c ls){k:Nat}(hk:k<n):∃ad v,A=some ad∧w.cell? (ad.add k)=some v∧Mf w v (gL ls k):=by
 have hl:=h.len;obtain⟨xs,h1,h2⟩:=h;obtain⟨ad,e,hc⟩:=h1.at_ hk;obtain⟨v,h3,h4⟩:=h2.2 k (by omega)
 exact⟨ad,v,e,hc k v h3,h4⟩
theorem Ud.lnv (h:Ud w b row xs ls):fI w xs ls:=⟨h.1,fun i hi=>by obtain⟨v,h1,h2,_⟩:=h.2 i hi;exact⟨v,h1,h2.sl⟩⟩
theorem Ud.ext (h:Ud w b row xs ls)(he:An w w'):Ud w' b row xs ls:=⟨h.1,fun i hi=>by obtain⟨v,h1,h2,h3⟩:=h.2 i hi;exact⟨v,h1,h2.ext he,h3⟩⟩
theorem Ud.setCell (h:Ud w b row xs ls){p:Addr}(hp:p.block<b)(u:Value):Ud (w.setCell p u) b row xs ls:=⟨h.1,fun i hi=>by obtain⟨v,h1,h2,h3⟩:=h.2 i hi;exact⟨v,h1,h2.setCell hp u,h3⟩⟩
theorem Ud.grown {rh:Option Nat}(h:Ud w b row xs ls)(hg:w.grownBy w' row)(hr:rh=row∨∃g,w.heap.size≤g∧rh=some g):Ud w' b rh xs ls:=
 ⟨h.1,fun i hi=>by
  obtain⟨v,h1,⟨A,n,c,rfl,h2,h4⟩,h3⟩:=h.2 i hi;refine⟨_,h1,⟨A,n,c,rfl,Bd.kept h2 hg h3,h4⟩,?_⟩
  rcases hr with rfl|⟨g,QR,rfl⟩
  ·exact h3
  ·cases hb:(Ak A n c).ownBlock with
   |none=>exact .inl rfl
   |some g'=>
    have:=(Bd.blk h2 g' hb).2;exact .inr (fun e=>by injection e with e;omega)⟩
theorem J0i {l:List Int}{i:Nat}(h:i<ls.length):gL (ls++[l]) i=gL ls i:=by unfold gL;rw[Bs h]
theorem J0j {l:List Int}:gL (ls++[l]) ls.length=l:=by unfold gL;simp
theorem Ud.snoc {l:List Int}{v:Value}(h:Ud w b row xs ls)(hv:Bl w b v l)(hr:v.ownBlock=none∨v.ownBlock≠row):Ud w b row (xs++[v]) (ls++[l]):=by
 refine⟨by simp[h.1],fun i hi=>?_⟩
 rw[List.length_append,List.length_singleton]at hi;rcases Nat.lt_or_ge i ls.length with ae|ku
 ·obtain⟨u,h1,h2,h3⟩:=h.2 i ae
  rw[J0i ae];exact⟨u,by rw[Bs (by rw[h.1];exact ae)];exact h1,h2,h3⟩
 ·obtain rfl:i=ls.length:=by omega
  rw[J0j];exact⟨v,by rw[List.getElem?_append_right (by rw[h.1];exact Aj _),h.1,Nat.sub_self];rfl,hv,hr⟩
theorem Ud.nil (w:World)(b:Nat)(row:Option Nat):Ud w b row [] []:=⟨rfl,fun i hi=>absurd hi (by simp)⟩
theorem Hn.nil (w:World)(b:Nat):Hn w b none 0 0 []:=⟨[],Bd.nil _ _ _ _,Ud.nil _ _ _,fun _=>rfl⟩
theorem Hn.lns (h:Hn w b A n c ls):Ym w A n c ls:=by obtain⟨xs,h1,h2,_⟩:=h;exact⟨xs,Bd.rd h1,h2.lnv⟩
theorem Hn.ext (h:Hn w b A n c ls)(he:An w w'):Hn w' b A n c ls:=by obtain⟨xs,h1,h2,h3⟩:=h;exact⟨xs,Bd.ext h1 he,h2.ext he,h3⟩
theorem Hn.setCell (h:Hn w b A n c ls){p:Addr}(hp:p.block<b)(u:Value):Hn (w.setCell p u) b A n c ls:=by obtain⟨xs,h1,h2,h3⟩:=h;exact⟨xs,Bd.setCell h1 hp u,h2.setCell hp u,h3⟩
theorem Hn.setRow (h:Hn w b A n c ls){g:Nat}(hg:g<b)(us:Array Value):Hn (w.setRow g us) b A n c ls:=by
 obtain⟨xs,h1,h2,h3⟩:=h;exact⟨xs,Bd.setRow h1 hg us,⟨h2.1,fun i hi=>by obtain⟨v,k1,k2,k3⟩:=h2.2 i hi;exact⟨v,k1,k2.setRow hg us,k3⟩⟩,h3⟩
theorem Hn.lower {b':Nat}(h:Hn w b A n c ls)(hb:b'≤b):Hn w b' A n c ls:=by
 obtain⟨xs,h1,h2,h3⟩:=h;exact⟨xs,Bd.lower h1 hb,⟨h2.1,fun i hi=>by obtain⟨v,k1,k2,k3⟩:=h2.2 i hi;exact⟨v,k1,k2.lower hb,k3⟩⟩,h3⟩
end
theorem Ns:(prog.info? 25).map (fun i=>(i.zero,i.size,i.bytes))=some (some (.slice none 0 0),1,24):=by kernel_rfl
theorem pS {A:Option Addr}{n c:Nat}{xs:List Value}(hl:Rd w 1 A n c xs)(h1:∀u∈xs,u.oneCell'=true)(hA:A=none→c=0)(hb:n*24≤140737488355328):
 Calls prog 158 #[.slice A n c] w fun e w'=>∃B d,e=.returned (.slice B n d)∧Bd w' w.heap.size 25 1 B n d xs∧(B=none→d=0)∧An w w':=by
 obtain⟨i0,hi,bm,bz,az⟩:=info_parts Ns;have ab:=hl.len;have aw:=hl.ncap;have aq:=hl.nmax;have HB:=A6 hb;clear hb;unfold maxLen at aq;have hq:∀w1:World,(binOp .eql 39 (.slice A n c) (.slice none 0 0)).run prog w1=.ok (.bool A.isNone) w1:=fun w1=>Lib.run_eql_slice_nil w1 39 25 A n c 0 0 underlying39
 rcases A with _|ad
 ·obtain rfl:=hA rfl
  obtain rfl:n=0:=by omega
  obtain rfl:xs=[]:=List.eq_nil_of_length_eq_zero (by omega)
  clear HB hi bm bz az;go_enter func158,ntmps158
  go_wp2_with fail
  go_ret
  exact⟨none,0,rfl,Bd.nil _ _ _ _,fun _=>rfl,An.refl _⟩
 ·have hn:=A6 ab
  clear ab hA;go_enter func158,ntmps158
  have dg:Bd (w.alloc (.cells #[] 25)) w.heap.size 25 1 (some ⟨w,0,none⟩) 0 0 []:=
   ⟨rfl,.inr ⟨w,0,#[],rfl,Aj _,heap_alloc_new w _,Aj _,Nat.zero_le _,rfl,rfl⟩⟩
  have am:=An.alloc w (.cells #[] 25);go_wp2_with (at_builtin;refine Eh rfl (.tmp 5) (.tmp 6) 39 rfl w w.heap.size 25 i0 (.slice none 0 0) 1 24 underlying39 hi bm bz az rfl (by decide) _ 0 0 [] rfl dg _ n c _ rfl (hl.ext am) ?_ ?_ ?_ am (Aj _) am.hsize ?_)
  ·exact h1
  ·have:=hl.nmax;unfold maxLen at this ⊢;omega
  ·have:=HB.out;omega
  ·intro A' c' w' ce av cf fw
   clear av dg am;have qe:A'=none→c'=0:=by
    exact I84
   clear cf;go_wp2_with fail
   go_ret
   exact⟨A',c',rfl,by simpa using ce,qe,fw⟩
theorem nN:(prog.info? 38).map (·.size)=some 27:=by kernel_rfl
theorem De (h:cs.size=27):(prog.info? 38).map (·.size)=some cs.size:=by rw[h];exact nN
def Gb (k:Int):Option (Nat×Bool):=
 if k=0 then some (0,false)else if 97≤k∧k≤122 then some ((k-96).toNat,false)else if 65≤k∧k≤90 then some ((k-64).toNat,true)else none
theorem Wm {m:Bool}(h:Gb k=some (i,m)):i<27:=by
 unfold Gb at h;split at h
 ·exact I122
 ·split at h
  ·exact I122
  ·split at h
   ·exact I122
   ·cases h
theorem iA (h:Gb k=none):k≠0∧¬(97≤k∧k≤122)∧¬(65≤k∧k≤90):=by
 unfold Gb at h;refine⟨fun h0=>?_,fun h1=>?_,fun h2=>?_⟩
 ·rw[if_pos h0]at h;cases h
 ·rw[if_neg (by omega),if_pos h1]at h;cases h
 ·rw[if_neg (by omega),if_neg (by omega),if_pos h2]at h;cases h
theorem tO {a b:Int}{x y:Value}(h:a=b):Ending.returned (.tuple #[a,x,y])=.returned (.tuple #[b,x,y]):=by rw[h]
theorem U1 {m:Bool}(w:World)(h:Gb k=some (i,m)):
 Calls prog 174 #[.int .i64 k] w fun e w'=>e=.returned (.tuple #[i,m,true])∧w=w':=by
 unfold Gb at h;by_cases h0:k=0
 ·subst h0
  rw[if_pos rfl]at h;injection h with h;injection h with h1 h2;subst h1;subst h2;go_enter func174,ntmps174
  go_wp2_with fail
  go_ret3
  exact⟨rfl,rfl⟩
 rw[if_neg h0]at h;have e0:(k==0)=false:=by simpa using h0
 by_cases h1:97≤k∧k≤122
 ·rw[if_pos h1]at h
  injection h with h;injection h with h2 h3;obtain⟨h4,h5⟩:=h1;obtain rfl:k=(i:Int)+96:=by omega
  subst h3;have hi:1≤i∧i≤26:=by omega
  clear h2 h0;exact I58
 rw[if_neg h1]at h;by_cases h2:65≤k∧k≤90
 ·rw[if_pos h2]at h
  injection h with h;injection h with h3 h4;obtain⟨h5,h6⟩:=h2;obtain rfl:k=(i:Int)+64:=by omega
  subst h4;have hi:1≤i∧i≤26:=by omega
  have h7:decide (97≤(i:Int)+64)=false:=by simp;omega
  clear h3 h0 h1;exact I58
 ·rw[if_neg h2]at h;cases h
theorem Zg (w:World)(h:Gb k=none):
 Calls prog 174 #[.int .i64 k] w fun e w'=>e=.returned (.tuple #[(0:Int),false,false])∧w=w':=by
 obtain⟨h0,h1,h2⟩:=iA h;have e0:(k==0)=false:=by simpa using h0
 have h3:k<65∨(90<k∧k<97)∨122<k:=by omega
 clear h h0 h1 h2;rcases h3 with h3|⟨h3,h4⟩|h3
 all_goals
  go_enter func174,ntmps174
  go_wp2_with fail
  go_ret3
  exact⟨rfl,rfl⟩
theorem pO {rs:Nat→List Int}(h:Lp w cs rs):
 Calls prog 175 #[.agg cs] w fun e w'=>∃ds,e=.returned (.agg ds)∧Fd w' w.heap.size ds rs∧Vp ds 27∧An w w':=by
 have H:=A6 h;have ff:=h.1;clear h;obtain⟨z,hz⟩:∃z:Array Value,Cb=z:=⟨_,rfl⟩;have HZ:Hid (Cb=z):=A6 hz;have al:Hid (Aq ((w.alloc (.cells cs 38)).alloc (.cells Cb 38)) w.heap.size 38 cs):=A6 ((Aq.new w _ cs).ext (An.alloc _ _));have ak:Hid (Aq ((w.alloc (.cells cs 38)).alloc (.cells Cb 38)) (w.heap.size+1) 38 Cb):=A6 (by
  have:=Aq.new (w.alloc (.cells cs 38)) 38 Cb
  rwa[World.size_alloc]at this)
 have hE:Hid (An w ((w.alloc (.cells cs 38)).alloc (.cells Cb 38))):=A6 ((An.alloc _ _).to_alloc _);clear hz;go_enter func175,ntmps175
 go_wp2_with fail
 go_loopw [4] (fun s4 wx=>∃(i:Nat) (a:Array Value),i≤27∧s4=.int .i64 i∧Hid (a.size=27∧(∀j,j<i→∃v,a[j]? = some v∧Bl wx (w.heap.size+2) v (rs j))∧(∀j,i≤j→a[j]? = cs[j]?))∧Hid (Aq wx w.heap.size 38 a)∧Hid (Aq wx (w.heap.size+1) 38 Cb)∧Hid (An w wx)∧Hid (Vp a i)) (fun s4 _=>27-(intOf s4).toNat)
 case atStart=>exact⟨0,cs,by omega,rfl,A6 ⟨ff,fun j hj=>by omega,fun _ _=>rfl⟩,al,ak,hE,A6 (fun j k g hj=>by omega)⟩
 case round=>
  clear al ak hE;obtain⟨i,a,hi,rfl,Ha,gh,mt,He,ED⟩:=hrel;have dy:=mt.out.lt;by_cases ae:i<27
  ·obtain⟨v,hv,A,n,c,rfl,hI,hA,hn⟩:=H.out.2 i ae
   have hc:wr.cell? ⟨w,i,none⟩=some (.slice A n c):=by rw[gh.out.cell i,Ha.out.2.2 i (Aj _),hv]
   have HC:=A6 (Dj (hI.ext He.out) hA hn);clear hv hI;go_wp2_with fail
   refine HC.out.mono ?_
   rintro e w2 ⟨B,d,rfl,hO,hB,au⟩;have lx:=A6 (Aq.ext gh.out au);have Ii:=A6 (Aq.ext mt.out au);have HO:Hid (Bl w2 (w.heap.size+2) (.slice B n d) (rs i)):=A6 ⟨B,n,d,rfl,Bd.lower hO (by omega),hB,hn⟩
   have XL:=A6 (He.out.trans au);have AN:Hid (a.size=27∧(∀j,j<i→∃v,a[j]? = some v∧Bl w2 (w.heap.size+2) v (rs j))∧(∀j,i≤j→a[j]? = cs[j]?)):=A6 ⟨Ha.out.1,fun j hj=>by obtain⟨v,h1,h2⟩:=Ha.out.2.1 j hj;exact⟨v,h1,h2.ext au⟩,Ha.out.2.2⟩
   have XM:Hid (Vp (a.setIfInBounds i (.slice B n d)) (i+1)):=A6 (ED.out.snoc (m:=wr.heap.size) (by rw[Ha.out.1];exact ae) (fun j g hj hg=>by
    obtain⟨v,h1,h2⟩:=Ha.out.2.1 j hj;exact(h2.blk g (by unfold Pc at hg;rw[h1]at hg;exact hg)).2) (fun g hg=>(Bd.blk hO g hg).1))
   have zf:=lx.out.frozen i;have fo:w2.cell? ⟨w,i,none⟩=some (.slice A n c):=au.cell hc;clear HC hO hB au hc Ha gh mt He hA hn ED;go_wp2_with fail
   go_roundw
   case rel=>
    refine⟨i+1,a.setIfInBounds i (.slice B n d),by omega,by go_num,A6 ⟨by simpa using AN.out.1,fun j hj=>?_,fun j hj=>?_⟩,A6 (lx.out.set_ i _),?_,A6 (XL.out.setCell (Aj _) _),XM⟩
    ·by_cases ig:j=i
     ·subst ig
      exact⟨_,by rw[Array.getElem?_setIfInBounds_self,if_pos (by rw[AN.out.1];exact ae)],HO.out.setCell (show w.heap.size<w.heap.size+2 by omega) _⟩
     ·obtain⟨v,h1,h2⟩:=AN.out.2.1 j (by omega)
      exact⟨v,by rw[Array.getElem?_setIfInBounds_ne (by omega)];exact h1,h2.setCell (show w.heap.size<w.heap.size+2 by omega) _⟩
    ·exact I124
    ·exact A6 (Bn Ii.out (by omega) i _)
   case measure=>simp[intOf];omega
  ·obtain rfl:i=27:=by omega
   have hs:=Ha.out.1;have cm:a.all (·.oneCell')=true:=Lp.one (w:=wr) (rs:=rs) ⟨hs,fun j hj=>by obtain⟨v,h1,h2⟩:=Ha.out.2.1 j hj;exact⟨v,h1,h2.sl⟩⟩
   have BT:Cb.size=a.size:=by rw[hs];rfl
   go_wp2_with (first|(refine wpList_load_row rfl 38 (.tmp 1) rfl w.heap.size rfl 38 a (0,0) _ gh.out underlying38 rfl (De hs) ?_)|(refine wpList_store_row rfl 38 (.tmp 2) (.tmp 14) rfl (w.heap.size+1) a rfl rfl 38 Cb mt.out (De hs) BT cm ?_))
   have HR:Hid (Fd (wr.setRow (w.heap.size+1) a) w.heap.size a rs):=A6 ⟨hs,fun j hj=>by obtain⟨v,h1,h2⟩:=Ha.out.2.1 j hj;exact⟨v,h1,(h2.setRow (show w.heap.size+1<w.heap.size+2 by omega) a).lower (by omega)⟩⟩
   have HX:=A6 (He.out.setRow (show w.heap.size≤w.heap.size+1 by omega) a)
   have dp:=mt.out.setRow a;refine bodyPost_ret (v:=.agg a) ?_ rfl ⟨a,rfl,HR.out,ED.out,HX.out⟩
   exact results_cell_row rfl _ _ (w.heap.size+1) 38 _ _ _ rfl dp underlying38 rfl (De hs)
theorem Eu {P:Program}{fn:Func}{p q:Tmp}{ty:TypeId}(h:fn.results=#[.cell p ty,.tmp q])(tmps:Array Value)(w:World)(g:Nat)(t:TypeId)(cs:Array Value)(fr:Nat×Nat)(d:TypeDesc)(v:Value)
 (hp:tmps.getD p undef=.pointer (some ⟨g,0,none⟩)) (hq:tmps.getD q undef=v) (hg:w.heap[g]? = some (.cells cs t fr))
 (hu:P.underlying ty=some d) (hd:(match d with|.struct _|.array _ _=>true|_=>false)=true) (hi:(P.info? ty).map (·.size)=some cs.size):
 (results fn tmps).run P w=.ok (.tuple #[.agg cs,v]) w:=by
 have ji:tmps[p]?.getD undef=.pointer (some ⟨g,0,none⟩):=by simpa using hp
 exact I40
theorem Q9:Cb.size=27:=rfl
theorem Xm:Cb.all (·.oneCell')=true:=by decide +kernel
section
variable {w:World} {cs:Array Value} {rs:Nat→List Int} {k:Int} {A:Option Addr} {n c:Nat} {text:List Int}
theorem Rh (w:World)(cs:Array Value)(t:TypeId):Aq ((w.alloc (.cells cs t)).alloc (.cells Cb t)) w.heap.size t cs∧Aq ((w.alloc (.cells cs t)).alloc (.cells Cb t)) (w.heap.size+1) t Cb∧An w ((w.alloc (.cells cs t)).alloc (.cells Cb t)):=
 ⟨(Aq.new w _ cs).ext (An.alloc _ _),by
  have:=Aq.new (w.alloc (.cells cs t)) t Cb
  rwa[World.size_alloc]at this,(An.alloc _ _).to_alloc _⟩
theorem yW (h:Gb k=none):Calls prog 148 #[.agg cs,.int .i64 k,.slice A n c] w fun e w'=>e=.returned (.tuple #[.agg Cb,(9:Int)])∧An w w':=by
 have N0:=trivial;exact K36
def Ho (rs:Nat→List Int)(i:Nat)(m:Bool)(text:List Int):Prop:=200<text.length∨(m=true∧200<(rs i).length+text.length)
theorem nQ {i:Nat}{m:Bool}(hr:Lp w cs rs)(ht:Bj w A n c text)(h:Gb k=some (i,m))(hb:Ho rs i m text):
 Calls prog 148 #[.agg cs,.int .i64 k,.slice A n c] w fun e w'=>e=.returned (.tuple #[.agg Cb,(2:Int)])∧An w w':=by
 have HN:=fun w=>A6 (U1 w h)
 have hi:=Wm h;obtain⟨v,hv,B,q,d,rfl,hI,hB,hq⟩:=hr.2 i hi;have EC:=ht.len;have aw:=ht.ncap;have ky:=ht.nmax;have dr:=hI.len;unfold Ho at hb;rw[EC,dr]at hb;obtain⟨H1,H2,H3⟩:=Rh w cs 38;have h2:=A6 H2;have h3:=A6 H3;have hnm':n≤9223372036854775807:=by unfold maxLen at ky;omega
 have SF:q≤9223372036854775807:=by omega
 clear h H1 H2 H3 hr ht EC dr hI ky aw hB hq;by_cases al:200<n
 ·have N1:=trivial;exact K36
 ·have N2:=trivial;exact K36
end
end
