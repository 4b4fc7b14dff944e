/-
  Part ZRegA.
-/
import Derived.Test.YtkaefdmhlmlhbaaGreatZClone
import Derived.Laws.CopyOwn
import Derived.Laws.Tables
import Derived.Laws.Rows
set_option maxRecDepth 100000
set_option maxHeartbeats 16000000
set_option linter.unusedVariables false
set_option linter.unusedSimpArgs false
namespace Go.Proofs.YtkaefdmhlmlhbaaGreat
open Go.RowKit
open _root_.List renaming getElem?_append_left→Bp
open _root_.Nat renaming le_refl→Aj
open Value renaming slice→Ak
section
variable {cs a:Array Value}{w:World}{v:Value}{k:Int}{i:Nat}
def Lj (w:World)(v:Value)(l:List Int):Prop:=∃A n c,v=.slice A n c∧Bl w A n c l∧(A=none→c=0)∧n*8≤140737488355328
def Bk (w:World)(b:Nat)(v:Value)(l:List Int):Prop:=∃A n c,v=.slice A n c∧Av w b A n c l∧(A=none→c=0)∧n*8≤140737488355328
def Kn (w:World)(cs:Array Value)(rs:Nat→List Int):Prop:=cs.size=27∧∀i,i<27→∃v,cs[i]? = some v∧Lj w v (rs i)
def En (w:World)(b:Nat)(cs:Array Value)(rs:Nat→List Int):Prop:=cs.size=27∧∀i,i<27→∃v,cs[i]? = some v∧Bk w b v (rs i)
section
variable {w w':World} {v:Value} {l:List Int} {b:Nat} {cs:Array Value} {rs:Nat→List Int}
theorem Lj.ext (h:Lj w v l)(he:An w w'):Lj w' v l:=by
 exact I108
theorem Bk.ext (h:Bk w b v l)(he:An w w'):Bk w' b v l:=by
 exact I108
theorem Bk.sl (h:Bk w b v l):Lj w v l:=by
 obtain⟨A,n,c,rfl,h1,h2,h3⟩:=h;exact⟨A,n,c,rfl,h1.ints,h2,h3⟩
theorem Bk.lower {b':Nat}(h:Bk w b v l)(hb:b'≤b):Bk w b' v l:=by
 obtain⟨A,n,c,rfl,h1,h2,h3⟩:=h;exact⟨A,n,c,rfl,Bd.lower h1 hb,h2,h3⟩
theorem Bk.nil (w:World)(b:Nat):Bk w b (.slice none 0 0) []:=⟨none,0,0,rfl,Av.nil _ _,fun _=>rfl,by omega⟩
theorem Bk.setCell (h:Bk w b v l){p:Addr}(hp:p.block<b)(u:Value):Bk (w.setCell p u) b v l:=by
 obtain⟨A,n,c,rfl,h1,h2,h3⟩:=h;exact⟨A,n,c,rfl,Bd.setCell h1 hp u,h2,h3⟩
theorem Bd.setRow {base e z n c:Nat}{A:Option Addr}{xs:List Value}(h:Bd w base e z A n c xs){g:Nat}(hg:g<base)(us:Array Value):Bd (w.setRow g us) base e z A n c xs:=by
 obtain⟨h1,h2⟩:=h;refine⟨h1,?_⟩
 rcases h2 with h2|⟨g',cap,cur,hv,hb,hg',r⟩
 ·exact .inl h2
 ·exact .inr ⟨g',cap,cur,hv,hb,(setRow_other w g g' us (by omega)).trans hg',r⟩
theorem Bk.setRow (h:Bk w b v l){g:Nat}(hg:g<b)(us:Array Value):Bk (w.setRow g us) b v l:=by
 obtain⟨A,n,c,rfl,h1,h2,h3⟩:=h;exact⟨A,n,c,rfl,Bd.setRow h1 hg us,h2,h3⟩
theorem Kn.ext (h:Kn w cs rs)(he:An w w'):Kn w' cs rs:=⟨h.1,fun i hi=>by obtain⟨v,h1,h2⟩:=h.2 i hi;exact⟨v,h1,h2.ext he⟩⟩
theorem En.ext (h:En w b cs rs)(he:An w w'):En w' b cs rs:=⟨h.1,fun i hi=>by obtain⟨v,h1,h2⟩:=h.2 i hi;exact⟨v,h1,h2.ext he⟩⟩
theorem En.regs (h:En w b cs rs):Kn w cs rs:=⟨h.1,fun i hi=>by obtain⟨v,h1,h2⟩:=h.2 i hi;exact⟨v,h1,h2.sl⟩⟩
theorem En.lower {b':Nat}(h:En w b cs rs)(hb:b'≤b):En w b' cs rs:=⟨h.1,fun i hi=>by obtain⟨v,h1,h2⟩:=h.2 i hi;exact⟨v,h1,h2.lower hb⟩⟩
theorem En.setRow (h:En w b cs rs){g:Nat}(hg:g<b)(us:Array Value):En (w.setRow g us) b cs rs:=⟨h.1,fun i hi=>by obtain⟨v,h1,h2⟩:=h.2 i hi;exact⟨v,h1,h2.setRow hg us⟩⟩
theorem En.setCell (h:En w b cs rs){p:Addr}(hp:p.block<b)(u:Value):En (w.setCell p u) b cs rs:=⟨h.1,fun i hi=>by obtain⟨v,h1,h2⟩:=h.2 i hi;exact⟨v,h1,h2.setCell hp u⟩⟩
theorem Kn.one (h:Kn w cs rs):cs.all (·.oneCell')=true:=by
 rw[Array.all_eq_true];intro i hi;obtain⟨v,h1,A,n,c,rfl,_⟩:=h.2 i (by have:=h.1;omega)
 rw[Array.getElem?_eq_getElem hi]at h1;injection h1 with h1;rw[h1]
 rfl
theorem An.setRow {w x:World}(h:An w x){g:Nat}(hg:w.heap.size≤g)(us:Array Value):An w (x.setRow g us):=below_setRow h hg us
theorem Aq.setRow {g:Nat}{t:TypeId}{old:Array Value}(h:Aq w g t old)(us:Array Value):Aq (w.setRow g us) g t us:=setRow_heap w g old us t _ h
theorem Aq.setRow_other {g g':Nat}{t:TypeId}{old:Array Value}(h:Aq w g t old)(us:Array Value)(hne:g≠g'):Aq (w.setRow g' us) g t old:=(Go.setRow_other w g' g us hne).trans h
end
theorem Bn {g g':Nat}{t:TypeId}(h:Aq w g t cs)(hne:g'≠g)(i:Nat)(u:Value):Aq (w.setCell ⟨g',i,none⟩ u) g t cs:=by
 unfold Aq at h ⊢;simp[World.setCell,Array.getElem?_modify,h,hne]
def Nk (a:Array Value)(j:Nat):Option Nat:=(a[j]?.getD (.slice none 0 0)).ownBlock
def Uh (a:Array Value)(n:Nat):Prop:=∀j k g,j<n→k<n→j≠k→Nk a j=some g→Nk a k≠some g
theorem Hk (h:i<a.size):Nk (a.setIfInBounds i v) i=v.ownBlock:=by
 unfold Nk;rw[Array.getElem?_setIfInBounds_self,if_pos h];rfl
theorem J1 {i j:Nat}(h:i≠j):Nk (a.setIfInBounds i v) j=Nk a j:=by
 unfold Nk;rw[Array.getElem?_setIfInBounds_ne h]
theorem Bk.blk {b:Nat}{l:List Int}(h:Bk w b v l):∀g,v.ownBlock=some g→b≤g∧g<w.heap.size:=by
 obtain⟨A,n,c,rfl,h1,_⟩:=h;exact Bd.blk h1
theorem Uh.snoc {i m:Nat}(h:Uh a i)(hi:i<a.size)(hold:∀j g,j<i→Nk a j=some g→g<m)(hnew:∀g,v.ownBlock=some g→m≤g):Uh (a.setIfInBounds i v) (i+1):=by
 intro j k g hj hk hjk h1 h2;by_cases hji:j=i
 ·subst hji
  rw[Hk hi]at h1;rw[J1 hjk]at h2;have:=hnew g h1;have:=hold k g (by omega) h2
  omega
 ·rw[J1 (fun e=>hji e.symm)]at h1
  by_cases hki:k=i
  ·subst hki
   rw[Hk hi]at h2;have:=hnew g h2;have:=hold j g (by omega) h1
   omega
  ·rw[J1 (fun e=>hki e.symm)]at h2
   exact h j k g (by omega) (by omega) hjk h1 h2
def Ca:Array Value:=Array.replicate 27 (.slice none 0 0)
theorem Vq (w:World)(b:Nat):En w b Ca (fun _=>[]):=⟨rfl,fun i hi=>⟨.slice none 0 0,by unfold Ca;rw[Array.getElem?_replicate,if_pos hi],Bk.nil _ _⟩⟩
def gL (ls:List (List Int))(i:Nat):List Int:=ls[i]?.getD []
def cR (w:World)(xs:List Value)(ls:List (List Int)):Prop:=xs.length=ls.length∧∀i,i<ls.length→∃v,xs[i]? = some v∧Lj w v (gL ls i)
def cP (w:World)(A:Option Addr)(n c:Nat)(ls:List (List Int)):Prop:=∃xs,Rd w 1 A n c xs∧cR w xs ls
def T7 (w:World)(b:Nat)(row:Option Nat)(xs:List Value)(ls:List (List Int)):Prop:=xs.length=ls.length∧∀i,i<ls.length→∃v,xs[i]? = some v∧Bk w b v (gL ls i)∧(v.ownBlock=none∨v.ownBlock≠row)
def Gv (w:World)(b:Nat)(A:Option Addr)(n c:Nat)(ls:List (List Int)):Prop:=∃xs,Bd w b 25 1 A n c xs∧T7 w b (Ak A n c).ownBlock xs ls∧(A=none→c=0)
section
variable {w w':World} {A:Option Addr} {n c b:Nat} {ls:List (List Int)} {xs:List Value} {row:Option Nat}
theorem cR.ext (h:cR w xs ls)(he:An w w'):cR w' xs ls:=⟨h.1,fun i hi=>by obtain⟨v,h1,h2⟩:=h.2 i hi;exact⟨v,h1,h2.ext he⟩⟩
theorem cR.one (h:cR w xs ls):∀u∈xs,u.oneCell'=true:=by
 intro u hu;obtain⟨i,hi,rfl⟩:=List.mem_iff_getElem.1 hu;obtain⟨v,h1,A,n,c,rfl,_⟩:=h.2 i (by rw[←h.1];exact hi)
 rw[List.getElem?_eq_getElem hi]at h1;injection h1 with h1;rw[h1];rfl
theorem cP.ext (h:cP w A n c ls)(he:An w w'):cP w' A n c ls:=by obtain⟨xs,h1,h2⟩:=h;exact⟨xs,Rd.ext h1 he,h2.ext he⟩
theorem cP.len (h:cP w A n c ls):ls.length=n:=by obtain⟨xs,h1,h2⟩:=h;have:=h1.len;rw[h2.1]at this;omega
theorem cP.ncap (h:cP w A n c ls):n≤c:=by obtain⟨xs,h1,h2⟩:=h;exact Rd.ncap h1
theorem cP.nmax (h:cP w A n c ls):c≤maxLen:=by obtain⟨xs,h1,h2⟩:=h;exact Rd.nmax h1
theorem cP.at_ (h:cP w A n c ls){k:Nat}(hk:k<n):∃ad v,A=some ad∧w.cell? (ad.add k)=some v∧Lj w v (gL ls k):=by
 have hl:=h.len;obtain⟨xs,h1,h2⟩:=h;obtain⟨ad,e,hc⟩:=h1.at_ hk;obtain⟨v,h3,h4⟩:=h2.2 k (by omega)
 exact⟨ad,v,e,hc k v h3,h4⟩
theorem T7.lnv (h:T7 w b row xs ls):cR w xs ls:=⟨h.1,fun i hi=>by obtain⟨v,h1,h2,_⟩:=h.2 i hi;exact⟨v,h1,h2.sl⟩⟩
theorem T7.ext (h:T7 w b row xs ls)(he:An w w'):T7 w' b row xs ls:=⟨h.1,fun i hi=>by obtain⟨v,h1,h2,h3⟩:=h.2 i hi;exact⟨v,h1,h2.ext he,h3⟩⟩
theorem T7.setCell (h:T7 w b row xs ls){p:Addr}(hp:p.block<b)(u:Value):T7 (w.setCell p u) b row xs ls:=⟨h.1,fun i hi=>by obtain⟨v,h1,h2,h3⟩:=h.2 i hi;exact⟨v,h1,h2.setCell hp u,h3⟩⟩
theorem T7.grown {row':Option Nat}(h:T7 w b row xs ls)(hg:w.grownBy w' row)(hr:row'=row∨∃g,w.heap.size≤g∧row'=some g):T7 w' b row' xs ls:=
 ⟨h.1,fun i hi=>by
  obtain⟨v,h1,⟨A,n,c,rfl,h2,h4⟩,h3⟩:=h.2 i hi;refine⟨_,h1,⟨A,n,c,rfl,Bd.kept h2 hg h3,h4⟩,?_⟩
  rcases hr with rfl|⟨g,hgs,rfl⟩
  ·exact h3
  ·cases hb:(Ak A n c).ownBlock with
   |none=>exact .inl rfl
   |some g'=>
    have:=(Bd.blk h2 g' hb).2;exact .inr (fun e=>by injection e with e;omega)⟩
theorem vV {l:List Int}{i:Nat}(h:i<ls.length):gL (ls++[l]) i=gL ls i:=by unfold gL;rw[Bp h]
theorem vW {l:List Int}:gL (ls++[l]) ls.length=l:=by unfold gL;simp
theorem T7.snoc {l:List Int}{v:Value}(h:T7 w b row xs ls)(hv:Bk w b v l)(hr:v.ownBlock=none∨v.ownBlock≠row):T7 w b row (xs++[v]) (ls++[l]):=by
 refine⟨by simp[h.1],fun i hi=>?_⟩
 rw[List.length_append,List.length_singleton]at hi;rcases Nat.lt_or_ge i ls.length with hlt|hge
 ·obtain⟨u,h1,h2,h3⟩:=h.2 i hlt
  rw[vV hlt];exact⟨u,by rw[Bp (by rw[h.1];exact hlt)];exact h1,h2,h3⟩
 ·obtain rfl:i=ls.length:=by omega
  rw[vW];exact⟨v,by rw[List.getElem?_append_right (by rw[h.1];exact Aj _),h.1,Nat.sub_self];rfl,hv,hr⟩
theorem T7.nil (w:World)(b:Nat)(row:Option Nat):T7 w b row [] []:=⟨rfl,fun i hi=>absurd hi (by simp)⟩
theorem Gv.nil (w:World)(b:Nat):Gv w b none 0 0 []:=⟨[],Bd.nil _ _ _ _,T7.nil _ _ _,fun _=>rfl⟩
theorem Gv.lns (h:Gv w b A n c ls):cP w A n c ls:=by obtain⟨xs,h1,h2,_⟩:=h;exact⟨xs,Bd.rd h1,h2.lnv⟩
theorem Gv.ext (h:Gv w b A n c ls)(he:An w w'):Gv w' b A n c ls:=by obtain⟨xs,h1,h2,h3⟩:=h;exact⟨xs,Bd.ext h1 he,h2.ext he,h3⟩
theorem Gv.setCell (h:Gv w b A n c ls){p:Addr}(hp:p.block<b)(u:Value):Gv (w.setCell p u) b A n c ls:=by obtain⟨xs,h1,h2,h3⟩:=h;exact⟨xs,Bd.setCell h1 hp u,h2.setCell hp u,h3⟩
theorem Gv.setRow (h:Gv w b A n c ls){g:Nat}(hg:g<b)(us:Array Value):Gv (w.setRow g us) b A n c ls:=by
 obtain⟨xs,h1,h2,h3⟩:=h;exact⟨xs,Bd.setRow h1 hg us,⟨h2.1,fun i hi=>by obtain⟨v,k1,k2,k3⟩:=h2.2 i hi;exact⟨v,k1,k2.setRow hg us,k3⟩⟩,h3⟩
theorem Gv.lower {b':Nat}(h:Gv w b A n c ls)(hb:b'≤b):Gv w b' A n c ls:=by
 obtain⟨xs,h1,h2,h3⟩:=h;exact⟨xs,Bd.lower h1 hb,⟨h2.1,fun i hi=>by obtain⟨v,k1,k2,k3⟩:=h2.2 i hi;exact⟨v,k1,k2.lower hb,k3⟩⟩,h3⟩
end
theorem Ms:(Tryz.prog.info? 25).map (fun i=>(i.zero,i.size,i.bytes))=some (some (.slice none 0 0),1,24):=by kernel_rfl
theorem mG {A:Option Addr}{n c:Nat}{xs:List Value}(hl:Rd w 1 A n c xs)(h1:∀u∈xs,u.oneCell'=true)(hA:A=none→c=0)(hb:n*24≤140737488355328):
 Calls Tryz.prog 158 #[.slice A n c] w fun e w'=>∃B d,e=.returned (.slice B n d)∧Bd w' w.heap.size 25 1 B n d xs∧(B=none→d=0)∧An w w':=by
 obtain⟨i0,hi,hz0,hz1,hz2⟩:=info_parts Ms;have hlen:=hl.len;have hnc:=hl.ncap;have hcm:=hl.nmax;have HB:=A6 hb;clear hb;unfold maxLen at hcm;have hq:∀w1:World,(binOp .eql 39 (.slice A n c) (.slice none 0 0)).run Tryz.prog w1=.ok (.bool A.isNone) w1:=fun w1=>Lib.run_eql_slice_nil w1 39 25 A n c 0 0 Tryz.underlying39
 rcases A with _|ad
 ·obtain rfl:=hA rfl
  obtain rfl:n=0:=by omega
  obtain rfl:xs=[]:=List.eq_nil_of_length_eq_zero (by omega)
  clear HB hi hz0 hz1 hz2;go_enter Tryz.func158,Tryz.ntmps158
  go_wp2_with fail
  go_ret
  exact⟨none,0,rfl,Bd.nil _ _ _ _,fun _=>rfl,An.refl _⟩
 ·have hn:=A6 hlen
  clear hlen hA;go_enter Tryz.func158,Tryz.ntmps158
  have hown0:Bd (w.alloc (.cells #[] 25)) w.heap.size 25 1 (some ⟨w.heap.size,0,none⟩) 0 0 []:=
   ⟨rfl,.inr ⟨w.heap.size,0,#[],rfl,Aj _,heap_alloc_new w _,Aj _,Nat.zero_le _,rfl,rfl⟩⟩
  have hx0:=An.alloc w (.cells #[] 25);go_wp2_with (at_builtin;refine Ep rfl (.tmp 5) (.tmp 6) 39 rfl w w.heap.size 25 i0 (.slice none 0 0) 1 24 Tryz.underlying39 hi hz0 hz1 hz2 rfl (by decide) _ 0 0 [] rfl hown0 _ n c _ rfl (hl.ext hx0) ?_ ?_ ?_ hx0 (Aj _) hx0.hsize ?_)
  ·exact h1
  ·have:=hl.nmax;unfold maxLen at this ⊢;omega
  ·have:=HB.out;omega
  ·intro A' c' w' hown' hgr hor he'
   clear hgr hown0 hx0;have hnil:A'=none→c'=0:=by
    exact I78
   clear hor;go_wp2_with fail
   go_ret
   exact⟨A',c',rfl,by simpa using hown',hnil,he'⟩
theorem kI:(Tryz.prog.info? 38).map (·.size)=some 27:=by kernel_rfl
theorem D0 (h:cs.size=27):(Tryz.prog.info? 38).map (·.size)=some cs.size:=by rw[h];exact kI
def Fu (k:Int):Option (Nat×Bool):=
 if k=0 then some (0,false)else if 97≤k∧k≤122 then some ((k-96).toNat,false)else if 65≤k∧k≤90 then some ((k-64).toNat,true)else none
theorem V1 {m:Bool}(h:Fu k=some (i,m)):i<27:=by
 unfold Fu at h;split at h
 ·injection h with h;injection h with h _;omega
 ·split at h
  ·injection h with h;injection h with h _;omega
  ·split at h
   ·injection h with h;injection h with h _;omega
   ·cases h
theorem eC (h:Fu k=none):k≠0∧¬(97≤k∧k≤122)∧¬(65≤k∧k≤90):=by
 unfold Fu at h;refine⟨fun h0=>?_,fun h1=>?_,fun h2=>?_⟩
 ·rw[if_pos h0]at h;cases h
 ·rw[if_neg (by omega),if_pos h1]at h;cases h
 ·rw[if_neg (by omega),if_neg (by omega),if_pos h2]at h;cases h
theorem pH {a b:Int}{x y:Value}(h:a=b):Ending.returned (.tuple #[.int .i64 a,x,y])=.returned (.tuple #[.int .i64 b,x,y]):=by rw[h]
theorem Sq {m:Bool}(w:World)(h:Fu k=some (i,m)):
 Calls Tryz.prog 174 #[.int .i64 k] w fun e w'=>e=.returned (.tuple #[.int .i64 i,.bool m,.bool true])∧w=w':=by
 unfold Fu at h;by_cases h0:k=0
 ·subst h0
  rw[if_pos rfl]at h;injection h with h;injection h with h1 h2;subst h1;subst h2;go_enter Tryz.func174,Tryz.ntmps174
  go_wp2_with fail
  go_ret3
  exact⟨rfl,rfl⟩
 rw[if_neg h0]at h;have e0:(k==0)=false:=by simpa using h0
 by_cases h1:97≤k∧k≤122
 ·rw[if_pos h1]at h
  injection h with h;injection h with h2 h3;obtain⟨h4,h5⟩:=h1;obtain rfl:k=(i:Int)+96:=by omega
  subst h3;have hi:1≤i∧i≤26:=by omega
  clear h2 h0;exact I54
 rw[if_neg h1]at h;by_cases h2:65≤k∧k≤90
 ·rw[if_pos h2]at h
  injection h with h;injection h with h3 h4;obtain⟨h5,h6⟩:=h2;obtain rfl:k=(i:Int)+64:=by omega
  subst h4;have hi:1≤i∧i≤26:=by omega
  have h7:decide (97≤(i:Int)+64)=false:=by simp;omega
  clear h3 h0 h1;exact I54
 ·rw[if_neg h2]at h;cases h
theorem Xq (w:World)(h:Fu k=none):
 Calls Tryz.prog 174 #[.int .i64 k] w fun e w'=>e=.returned (.tuple #[.int .i64 0,.bool false,.bool false])∧w=w':=by
 obtain⟨h0,h1,h2⟩:=eC h;have e0:(k==0)=false:=by simpa using h0
 have h3:k<65∨(90<k∧k<97)∨122<k:=by omega
 clear h h0 h1 h2;rcases h3 with h3|⟨h3,h4⟩|h3
 all_goals
  go_enter Tryz.func174,Tryz.ntmps174
  go_wp2_with fail
  go_ret3
  exact⟨rfl,rfl⟩
theorem mC {rs:Nat→List Int}(h:Kn w cs rs):
 Calls Tryz.prog 175 #[.agg cs] w fun e w'=>∃ds,e=.returned (.agg ds)∧En w' w.heap.size ds rs∧Uh ds 27∧An w w':=by
 have H:=A6 h;have hcs:=h.1;clear h;obtain⟨z,hz⟩:∃z:Array Value,Ca=z:=⟨_,rfl⟩;have HZ:Hid (Ca=z):=A6 hz;have hb1:Hid (Aq ((w.alloc (.cells cs 38)).alloc (.cells Ca 38)) w.heap.size 38 cs):=A6 ((Aq.new w _ cs).ext (An.alloc _ _));have hb2:Hid (Aq ((w.alloc (.cells cs 38)).alloc (.cells Ca 38)) (w.heap.size+1) 38 Ca):=A6 (by
  have:=Aq.new (w.alloc (.cells cs 38)) 38 Ca
  rwa[World.size_alloc]at this)
 have hE:Hid (An w ((w.alloc (.cells cs 38)).alloc (.cells Ca 38))):=A6 ((An.alloc _ _).to_alloc _);clear hz;go_enter Tryz.func175,Tryz.ntmps175
 go_wp2_with fail
 go_loopw [4] (fun s4 wx=>∃(i:Nat) (a:Array Value),i≤27∧s4=.int .i64 i∧Hid (a.size=27∧(∀j,j<i→∃v,a[j]? = some v∧Bk wx (w.heap.size+2) v (rs j))∧(∀j,i≤j→a[j]? = cs[j]?))∧Hid (Aq wx w.heap.size 38 a)∧Hid (Aq wx (w.heap.size+1) 38 Ca)∧Hid (An w wx)∧Hid (Uh a i)) (fun s4 _=>27-(intOf s4).toNat)
 case atStart=>exact⟨0,cs,by omega,rfl,A6 ⟨hcs,fun j hj=>by omega,fun _ _=>rfl⟩,hb1,hb2,hE,A6 (fun j k g hj=>by omega)⟩
 case round=>
  clear hb1 hb2 hE;obtain⟨i,a,hi,rfl,Ha,Hb1,Hb2,He,Hap⟩:=hrel;have hle:=Hb2.out.lt;by_cases hlt:i<27
  ·obtain⟨v,hv,A,n,c,rfl,hI,hA,hn⟩:=H.out.2 i hlt
   have hc:wr.cell? ⟨w.heap.size,i,none⟩=some (.slice A n c):=by rw[Hb1.out.cell i,Ha.out.2.2 i (Aj _),hv]
   have HC:=A6 (D3 (hI.ext He.out) hA hn);clear hv hI;go_wp2_with fail
   refine HC.out.mono ?_
   rintro e w2 ⟨B,d,rfl,hO,hB,he2⟩;have Hb1':=A6 (Aq.ext Hb1.out he2);have Hb2':=A6 (Aq.ext Hb2.out he2);have HO:Hid (Bk w2 (w.heap.size+2) (.slice B n d) (rs i)):=A6 ⟨B,n,d,rfl,Bd.lower hO (by omega),hB,hn⟩
   have He2:=A6 (He.out.trans he2);have Ha2:Hid (a.size=27∧(∀j,j<i→∃v,a[j]? = some v∧Bk w2 (w.heap.size+2) v (rs j))∧(∀j,i≤j→a[j]? = cs[j]?)):=A6 ⟨Ha.out.1,fun j hj=>by obtain⟨v,h1,h2⟩:=Ha.out.2.1 j hj;exact⟨v,h1,h2.ext he2⟩,Ha.out.2.2⟩
   have Hap2:Hid (Uh (a.setIfInBounds i (.slice B n d)) (i+1)):=A6 (Hap.out.snoc (m:=wr.heap.size) (by rw[Ha.out.1];exact hlt) (fun j g hj hg=>by
    obtain⟨v,h1,h2⟩:=Ha.out.2.1 j hj;exact(h2.blk g (by unfold Nk at hg;rw[h1]at hg;exact hg)).2) (fun g hg=>(Bd.blk hO g hg).1))
   have hfr:=Hb1'.out.frozen i;have hc2:w2.cell? ⟨w.heap.size,i,none⟩=some (.slice A n c):=he2.cell hc;clear HC hO hB he2 hc Ha Hb1 Hb2 He hA hn Hap;go_wp2_with fail
   go_roundw
   case rel=>
    refine⟨i+1,a.setIfInBounds i (.slice B n d),by omega,by go_num,A6 ⟨by simpa using Ha2.out.1,fun j hj=>?_,fun j hj=>?_⟩,A6 (Hb1'.out.set_ i _),?_,A6 (He2.out.setCell (Aj _) _),Hap2⟩
    ·by_cases hji:j=i
     ·subst hji
      exact⟨_,by rw[Array.getElem?_setIfInBounds_self,if_pos (by rw[Ha2.out.1];exact hlt)],HO.out.setCell (show w.heap.size<w.heap.size+2 by omega) _⟩
     ·obtain⟨v,h1,h2⟩:=Ha2.out.2.1 j (by omega)
      exact⟨v,by rw[Array.getElem?_setIfInBounds_ne (by omega)];exact h1,h2.setCell (show w.heap.size<w.heap.size+2 by omega) _⟩
    ·exact I113
    ·exact A6 (Bn Hb2'.out (by omega) i _)
   case measure=>simp[intOf];omega
  ·obtain rfl:i=27:=by omega
   have hs:=Ha.out.1;have hone:a.all (·.oneCell')=true:=Kn.one (w:=wr) (rs:=rs) ⟨hs,fun j hj=>by obtain⟨v,h1,h2⟩:=Ha.out.2.1 j hj;exact⟨v,h1,h2.sl⟩⟩
   have hns:Ca.size=a.size:=by rw[hs];rfl
   go_wp2_with (first|(refine wpList_load_row rfl 38 (.tmp 1) rfl w.heap.size rfl 38 a (0,0) _ Hb1.out Tryz.underlying38 rfl (D0 hs) ?_)|(refine wpList_store_row rfl 38 (.tmp 2) (.tmp 14) rfl (w.heap.size+1) a rfl rfl 38 Ca Hb2.out (D0 hs) hns hone ?_))
   have HR:Hid (En (wr.setRow (w.heap.size+1) a) w.heap.size a rs):=A6 ⟨hs,fun j hj=>by obtain⟨v,h1,h2⟩:=Ha.out.2.1 j hj;exact⟨v,h1,(h2.setRow (show w.heap.size+1<w.heap.size+2 by omega) a).lower (by omega)⟩⟩
   have HX:=A6 (He.out.setRow (show w.heap.size≤w.heap.size+1 by omega) a)
   have hres:=Hb2.out.setRow a;refine bodyPost_ret (v:=.agg a) ?_ rfl ⟨a,rfl,HR.out,Hap.out,HX.out⟩
   exact results_cell_row rfl _ _ (w.heap.size+1) 38 _ _ _ rfl hres Tryz.underlying38 rfl (D0 hs)
theorem Eb {P:Program}{fn:Func}{p q:Tmp}{ty:TypeId}(h:fn.results=#[.cell p ty,.tmp q])(tmps:Array Value)(w:World)(g:Nat)(t:TypeId)(cs:Array Value)(fr:Nat×Nat)(d:TypeDesc)(v:Value)
 (hp:tmps.getD p undef=.pointer (some ⟨g,0,none⟩)) (hq:tmps.getD q undef=v) (hg:w.heap[g]? = some (.cells cs t fr))
 (hu:P.underlying ty=some d) (hd:(match d with|.struct _|.array _ _=>true|_=>false)=true) (hi:(P.info? ty).map (·.size)=some cs.size):
 (results fn tmps).run P w=.ok (.tuple #[.agg cs,v]) w:=by
 have hp':tmps[p]?.getD undef=.pointer (some ⟨g,0,none⟩):=by simpa using hp
 exact I37
theorem Pe:Ca.size=27:=rfl
theorem Vr:Ca.all (·.oneCell')=true:=by decide +kernel
section
variable {w:World} {cs:Array Value} {rs:Nat→List Int} {k:Int} {A:Option Addr} {n c:Nat} {text:List Int}
theorem Qf (w:World)(cs:Array Value)(t:TypeId):Aq ((w.alloc (.cells cs t)).alloc (.cells Ca t)) w.heap.size t cs∧Aq ((w.alloc (.cells cs t)).alloc (.cells Ca t)) (w.heap.size+1) t Ca∧An w ((w.alloc (.cells cs t)).alloc (.cells Ca t)):=
 ⟨(Aq.new w _ cs).ext (An.alloc _ _),by
  have:=Aq.new (w.alloc (.cells cs t)) t Ca
  rwa[World.size_alloc]at this,(An.alloc _ _).to_alloc _⟩
theorem uK (h:Fu k=none):Calls Tryz.prog 148 #[.agg cs,.int .i64 k,.slice A n c] w fun e w'=>e=.returned (.tuple #[.agg Ca,.int .i64 9])∧An w w':=by
 have N0:=trivial;exact K36
def Gw (rs:Nat→List Int)(i:Nat)(m:Bool)(text:List Int):Prop:=200<text.length∨(m=true∧200<(rs i).length+text.length)
theorem kK {i:Nat}{m:Bool}(hr:Kn w cs rs)(ht:Bl w A n c text)(h:Fu k=some (i,m))(hb:Gw rs i m text):
 Calls Tryz.prog 148 #[.agg cs,.int .i64 k,.slice A n c] w fun e w'=>e=.returned (.tuple #[.agg Ca,.int .i64 2])∧An w w':=by
 have HN:=fun w=>A6 (Sq w h)
 have hi:=V1 h;obtain⟨v,hv,B,q,d,rfl,hI,hB,hq⟩:=hr.2 i hi;have hnl:=ht.len;have hnc:=ht.ncap;have hnm:=ht.nmax;have hql:=hI.len;unfold Gw at hb;rw[hnl,hql]at hb;obtain⟨H1,H2,H3⟩:=Qf w cs 38;have h2:=A6 H2;have h3:=A6 H3;have hnm':n≤9223372036854775807:=by unfold maxLen at hnm;omega
 have hqm:q≤9223372036854775807:=by omega
 clear h H1 H2 H3 hr ht hnl hql hI hnm hnc hB hq;by_cases hb1:200<n
 ·have N1:=trivial;exact K36
 ·have N2:=trivial;exact K36
end
end
