/-
  Part ZRegA.
-/
import Derived.Test.YtiahhfglhlgfiaaGreatZClone
import Derived.Laws.CopyOwn
import Derived.Laws.Tables
import Derived.Laws.Rows
set_option maxRecDepth 100000
set_option maxHeartbeats 16000000
set_option linter.unusedVariables false
set_option linter.unusedSimpArgs false
namespace Go.Proofs.YtiahhfglhlgfiaaGreat
open Go.RowKit
open _root_.List renaming getElem?_append_left→Bu
open _root_.Nat renaming le_refl→Ai
open Value renaming slice→Aj
section
variable {cs a:Array Value}{w:World}{v:Value}{k:Int}{i:Nat}
def Kq (w:World)(v:Value)(l:List Int):Prop:=∃A n c,v=.slice A n c∧Bi w A n c l∧(A=none→c=0)∧n*8≤140737488355328
def Bg (w:World)(b:Nat)(v:Value)(l:List Int):Prop:=∃A n c,v=.slice A n c∧Av w b A n c l∧(A=none→c=0)∧n*8≤140737488355328
def Ka (w:World)(cs:Array Value)(rs:Nat→List Int):Prop:=cs.size=27∧∀i,i<27→∃v,cs[i]? = some v∧Kq w v (rs i)
def E8 (w:World)(b:Nat)(cs:Array Value)(rs:Nat→List Int):Prop:=cs.size=27∧∀i,i<27→∃v,cs[i]? = some v∧Bg w b v (rs i)
section
variable {w w':World} {v:Value} {l:List Int} {b:Nat} {cs:Array Value} {rs:Nat→List Int}
theorem Kq.ext (h:Kq w v l)(he:Al w w'):Kq w' v l:=by
 exact I105
theorem Bg.ext (h:Bg w b v l)(he:Al w w'):Bg w' b v l:=by
 exact I105
theorem Bg.sl (h:Bg w b v l):Kq w v l:=by
 obtain⟨A,n,c,rfl,h1,h2,h3⟩:=h;exact⟨A,n,c,rfl,h1.ints,h2,h3⟩
theorem Bg.lower {b':Nat}(h:Bg w b v l)(hb:b'≤b):Bg w b' v l:=by
 obtain⟨A,n,c,rfl,h1,h2,h3⟩:=h;exact⟨A,n,c,rfl,Ay.lower h1 hb,h2,h3⟩
theorem Bg.nil (w:World)(b:Nat):Bg w b (.slice none 0 0) []:=⟨none,0,0,rfl,Av.nil _ _,fun _=>rfl,by omega⟩
theorem Bg.setCell (h:Bg w b v l){p:Addr}(hp:p.block<b)(u:Value):Bg (w.setCell p u) b v l:=by
 obtain⟨A,n,c,rfl,h1,h2,h3⟩:=h;exact⟨A,n,c,rfl,Ay.setCell h1 hp u,h2,h3⟩
theorem Ay.setRow {base e z n c:Nat}{A:Option Addr}{xs:List Value}(h:Ay w base e z A n c xs){g:Nat}(hg:g<base)(us:Array Value):Ay (w.setRow g us) base e z A n c xs:=by
 obtain⟨h1,h2⟩:=h;refine⟨h1,?_⟩
 rcases h2 with h2|⟨g',cap,cur,hv,hb,hg',r⟩
 ·exact .inl h2
 ·exact .inr ⟨g',cap,cur,hv,hb,(setRow_other w g g' us (by omega)).trans hg',r⟩
theorem Bg.setRow (h:Bg w b v l){g:Nat}(hg:g<b)(us:Array Value):Bg (w.setRow g us) b v l:=by
 obtain⟨A,n,c,rfl,h1,h2,h3⟩:=h;exact⟨A,n,c,rfl,Ay.setRow h1 hg us,h2,h3⟩
theorem Ka.ext (h:Ka w cs rs)(he:Al w w'):Ka w' cs rs:=⟨h.1,fun i hi=>by obtain⟨v,h1,h2⟩:=h.2 i hi;exact⟨v,h1,h2.ext he⟩⟩
theorem E8.ext (h:E8 w b cs rs)(he:Al w w'):E8 w' b cs rs:=⟨h.1,fun i hi=>by obtain⟨v,h1,h2⟩:=h.2 i hi;exact⟨v,h1,h2.ext he⟩⟩
theorem E8.regs (h:E8 w b cs rs):Ka w cs rs:=⟨h.1,fun i hi=>by obtain⟨v,h1,h2⟩:=h.2 i hi;exact⟨v,h1,h2.sl⟩⟩
theorem E8.lower {b':Nat}(h:E8 w b cs rs)(hb:b'≤b):E8 w b' cs rs:=⟨h.1,fun i hi=>by obtain⟨v,h1,h2⟩:=h.2 i hi;exact⟨v,h1,h2.lower hb⟩⟩
theorem E8.setRow (h:E8 w b cs rs){g:Nat}(hg:g<b)(us:Array Value):E8 (w.setRow g us) b cs rs:=⟨h.1,fun i hi=>by obtain⟨v,h1,h2⟩:=h.2 i hi;exact⟨v,h1,h2.setRow hg us⟩⟩
theorem E8.setCell (h:E8 w b cs rs){p:Addr}(hp:p.block<b)(u:Value):E8 (w.setCell p u) b cs rs:=⟨h.1,fun i hi=>by obtain⟨v,h1,h2⟩:=h.2 i hi;exact⟨v,h1,h2.setCell hp u⟩⟩
theorem Ka.one (h:Ka w cs rs):cs.all (·.oneCell')=true:=by
 rw[Array.all_eq_true];intro i hi;obtain⟨v,h1,A,n,c,rfl,_⟩:=h.2 i (by have:=h.1;omega)
 rw[Array.getElem?_eq_getElem hi]at h1;injection h1 with h1;rw[h1]
 rfl
theorem Al.setRow {w x:World}(h:Al w x){g:Nat}(hg:w.heap.size≤g)(us:Array Value):Al w (x.setRow g us):=below_setRow h hg us
theorem An.setRow {g:Nat}{t:TypeId}{old:Array Value}(h:An w g t old)(us:Array Value):An (w.setRow g us) g t us:=setRow_heap w g old us t _ h
theorem An.setRow_other {g g':Nat}{t:TypeId}{old:Array Value}(h:An w g t old)(us:Array Value)(hne:g≠g'):An (w.setRow g' us) g t old:=(Go.setRow_other w g' g us hne).trans h
end
theorem Bh {g g':Nat}{t:TypeId}(h:An w g t cs)(hne:g'≠g)(i:Nat)(u:Value):An (w.setCell ⟨g',i,none⟩ u) g t cs:=by
 unfold An at h ⊢;simp[World.setCell,Array.getElem?_modify,h,hne]
def M7 (a:Array Value)(j:Nat):Option Nat:=(a[j]?.getD (.slice none 0 0)).ownBlock
def T8 (a:Array Value)(n:Nat):Prop:=∀j k g,j<n→k<n→j≠k→M7 a j=some g→M7 a k≠some g
theorem Gj (h:i<a.size):M7 (a.setIfInBounds i v) i=v.ownBlock:=by
 unfold M7;rw[Array.getElem?_setIfInBounds_self,if_pos h];rfl
theorem Jh {i j:Nat}(h:i≠j):M7 (a.setIfInBounds i v) j=M7 a j:=by
 unfold M7;rw[Array.getElem?_setIfInBounds_ne h]
theorem Bg.blk {b:Nat}{l:List Int}(h:Bg w b v l):∀g,v.ownBlock=some g→b≤g∧g<w.heap.size:=by
 obtain⟨A,n,c,rfl,h1,_⟩:=h;exact Ay.blk h1
theorem T8.snoc {i m:Nat}(h:T8 a i)(hi:i<a.size)(hold:∀j g,j<i→M7 a j=some g→g<m)(hnew:∀g,v.ownBlock=some g→m≤g):T8 (a.setIfInBounds i v) (i+1):=by
 intro j k g hj hk hjk h1 h2;by_cases hji:j=i
 ·subst hji
  rw[Gj hi]at h1;rw[Jh hjk]at h2;have:=hnew g h1;have:=hold k g (by omega) h2
  omega
 ·rw[Jh (fun e=>hji e.symm)]at h1
  by_cases hki:k=i
  ·subst hki
   rw[Gj hi]at h2;have:=hnew g h2;have:=hold j g (by omega) h1
   omega
  ·rw[Jh (fun e=>hki e.symm)]at h2
   exact h j k g (by omega) (by omega) hjk h1 h2
def Bw:Array Value:=Array.replicate 27 (.slice none 0 0)
theorem Uc (w:World)(b:Nat):E8 w b Bw (fun _=>[]):=⟨rfl,fun i hi=>⟨.slice none 0 0,by unfold Bw;rw[Array.getElem?_replicate,if_pos hi],Bg.nil _ _⟩⟩
def gL (ls:List (List Int))(i:Nat):List Int:=ls[i]?.getD []
def aL (w:World)(xs:List Value)(ls:List (List Int)):Prop:=xs.length=ls.length∧∀i,i<ls.length→∃v,xs[i]? = some v∧Kq w v (gL ls i)
def V7 (w:World)(A:Option Addr)(n c:Nat)(ls:List (List Int)):Prop:=∃xs,Rd w 1 A n c xs∧aL w xs ls
def Rp (w:World)(b:Nat)(row:Option Nat)(xs:List Value)(ls:List (List Int)):Prop:=xs.length=ls.length∧∀i,i<ls.length→∃v,xs[i]? = some v∧Bg w b v (gL ls i)∧(v.ownBlock=none∨v.ownBlock≠row)
def G6 (w:World)(b:Nat)(A:Option Addr)(n c:Nat)(ls:List (List Int)):Prop:=∃xs,Ay w b 27 1 A n c xs∧Rp w b (Aj A n c).ownBlock xs ls∧(A=none→c=0)
section
variable {w w':World} {A:Option Addr} {n c b:Nat} {ls:List (List Int)} {xs:List Value} {row:Option Nat}
theorem aL.ext (h:aL w xs ls)(he:Al w w'):aL w' xs ls:=⟨h.1,fun i hi=>by obtain⟨v,h1,h2⟩:=h.2 i hi;exact⟨v,h1,h2.ext he⟩⟩
theorem aL.one (h:aL w xs ls):∀u∈xs,u.oneCell'=true:=by
 intro u hu;obtain⟨i,hi,rfl⟩:=List.mem_iff_getElem.1 hu;obtain⟨v,h1,A,n,c,rfl,_⟩:=h.2 i (by rw[←h.1];exact hi)
 rw[List.getElem?_eq_getElem hi]at h1;injection h1 with h1;rw[h1];rfl
theorem V7.ext (h:V7 w A n c ls)(he:Al w w'):V7 w' A n c ls:=by obtain⟨xs,h1,h2⟩:=h;exact⟨xs,Rd.ext h1 he,h2.ext he⟩
theorem V7.len (h:V7 w A n c ls):ls.length=n:=by obtain⟨xs,h1,h2⟩:=h;have:=h1.len;rw[h2.1]at this;omega
theorem V7.ncap (h:V7 w A n c ls):n≤c:=by obtain⟨xs,h1,h2⟩:=h;exact Rd.ncap h1
theorem V7.nmax (h:V7 w A n c ls):c≤maxLen:=by obtain⟨xs,h1,h2⟩:=h;exact Rd.nmax h1
theorem V7.at_ (h:V7 w A n c ls){k:Nat}(hk:k<n):∃ad v,A=some ad∧w.cell? (ad.add k)=some v∧Kq w v (gL ls k):=by
 have hl:=h.len;obtain⟨xs,h1,h2⟩:=h;obtain⟨ad,e,hc⟩:=h1.at_ hk;obtain⟨v,h3,h4⟩:=h2.2 k (by omega)
 exact⟨ad,v,e,hc k v h3,h4⟩
theorem Rp.lnv (h:Rp w b row xs ls):aL w xs ls:=⟨h.1,fun i hi=>by obtain⟨v,h1,h2,_⟩:=h.2 i hi;exact⟨v,h1,h2.sl⟩⟩
theorem Rp.ext (h:Rp w b row xs ls)(he:Al w w'):Rp w' b row xs ls:=⟨h.1,fun i hi=>by obtain⟨v,h1,h2,h3⟩:=h.2 i hi;exact⟨v,h1,h2.ext he,h3⟩⟩
theorem Rp.setCell (h:Rp w b row xs ls){p:Addr}(hp:p.block<b)(u:Value):Rp (w.setCell p u) b row xs ls:=⟨h.1,fun i hi=>by obtain⟨v,h1,h2,h3⟩:=h.2 i hi;exact⟨v,h1,h2.setCell hp u,h3⟩⟩
theorem Rp.grown {row':Option Nat}(h:Rp w b row xs ls)(hg:w.grownBy w' row)(hr:row'=row∨∃g,w.heap.size≤g∧row'=some g):Rp w' b row' xs ls:=
 ⟨h.1,fun i hi=>by
  obtain⟨v,h1,⟨A,n,c,rfl,h2,h4⟩,h3⟩:=h.2 i hi;refine⟨_,h1,⟨A,n,c,rfl,Ay.kept h2 hg h3,h4⟩,?_⟩
  rcases hr with rfl|⟨g,hgs,rfl⟩
  ·exact h3
  ·cases hb:(Aj A n c).ownBlock with
   |none=>exact .inl rfl
   |some g'=>
    have:=(Ay.blk h2 g' hb).2;exact .inr (fun e=>by injection e with e;omega)⟩
theorem rY {l:List Int}{i:Nat}(h:i<ls.length):gL (ls++[l]) i=gL ls i:=by unfold gL;rw[Bu h]
theorem rZ {l:List Int}:gL (ls++[l]) ls.length=l:=by unfold gL;simp
theorem Rp.snoc {l:List Int}{v:Value}(h:Rp w b row xs ls)(hv:Bg w b v l)(hr:v.ownBlock=none∨v.ownBlock≠row):Rp w b row (xs++[v]) (ls++[l]):=by
 refine⟨by simp[h.1],fun i hi=>?_⟩
 rw[List.length_append,List.length_singleton]at hi;rcases Nat.lt_or_ge i ls.length with hlt|hge
 ·obtain⟨u,h1,h2,h3⟩:=h.2 i hlt
  rw[rY hlt];exact⟨u,by rw[Bu (by rw[h.1];exact hlt)];exact h1,h2,h3⟩
 ·obtain rfl:i=ls.length:=by omega
  rw[rZ];exact⟨v,by rw[List.getElem?_append_right (by rw[h.1];exact Ai _),h.1,Nat.sub_self];rfl,hv,hr⟩
theorem Rp.nil (w:World)(b:Nat)(row:Option Nat):Rp w b row [] []:=⟨rfl,fun i hi=>absurd hi (by simp)⟩
theorem G6.nil (w:World)(b:Nat):G6 w b none 0 0 []:=⟨[],Ay.nil _ _ _ _,Rp.nil _ _ _,fun _=>rfl⟩
theorem G6.lns (h:G6 w b A n c ls):V7 w A n c ls:=by obtain⟨xs,h1,h2,_⟩:=h;exact⟨xs,Ay.rd h1,h2.lnv⟩
theorem G6.ext (h:G6 w b A n c ls)(he:Al w w'):G6 w' b A n c ls:=by obtain⟨xs,h1,h2,h3⟩:=h;exact⟨xs,Ay.ext h1 he,h2.ext he,h3⟩
theorem G6.setCell (h:G6 w b A n c ls){p:Addr}(hp:p.block<b)(u:Value):G6 (w.setCell p u) b A n c ls:=by obtain⟨xs,h1,h2,h3⟩:=h;exact⟨xs,Ay.setCell h1 hp u,h2.setCell hp u,h3⟩
theorem G6.setRow (h:G6 w b A n c ls){g:Nat}(hg:g<b)(us:Array Value):G6 (w.setRow g us) b A n c ls:=by
 obtain⟨xs,h1,h2,h3⟩:=h;exact⟨xs,Ay.setRow h1 hg us,⟨h2.1,fun i hi=>by obtain⟨v,k1,k2,k3⟩:=h2.2 i hi;exact⟨v,k1,k2.setRow hg us,k3⟩⟩,h3⟩
theorem G6.lower {b':Nat}(h:G6 w b A n c ls)(hb:b'≤b):G6 w b' A n c ls:=by
 obtain⟨xs,h1,h2,h3⟩:=h;exact⟨xs,Ay.lower h1 hb,⟨h2.1,fun i hi=>by obtain⟨v,k1,k2,k3⟩:=h2.2 i hi;exact⟨v,k1,k2.lower hb,k3⟩⟩,h3⟩
end
theorem Lp:(Tryz.prog.info? 27).map (fun i=>(i.zero,i.size,i.bytes))=some (some (.slice none 0 0),1,24):=by kernel_rfl
theorem jJ {A:Option Addr}{n c:Nat}{xs:List Value}(hl:Rd w 1 A n c xs)(h1:∀u∈xs,u.oneCell'=true)(hA:A=none→c=0)(hb:n*24≤140737488355328):
 Calls Tryz.prog 104 #[.slice A n c] w fun e w'=>∃B d,e=.returned (.slice B n d)∧Ay w' w.heap.size 27 1 B n d xs∧(B=none→d=0)∧Al w w':=by
 obtain⟨i0,hi,hz0,hz1,hz2⟩:=info_parts Lp;have hlen:=hl.len;have hnc:=hl.ncap;have hcm:=hl.nmax;have HB:=A4 hb;clear hb;unfold maxLen at hcm;have hq:∀w1:World,(binOp .eql 41 (.slice A n c) (.slice none 0 0)).run Tryz.prog w1=.ok (.bool A.isNone) w1:=fun w1=>Lib.run_eql_slice_nil w1 41 27 A n c 0 0 Tryz.underlying41
 rcases A with _|ad
 ·obtain rfl:=hA rfl
  obtain rfl:n=0:=by omega
  obtain rfl:xs=[]:=List.eq_nil_of_length_eq_zero (by omega)
  clear HB hi hz0 hz1 hz2;go_enter Tryz.func104,Tryz.ntmps104
  go_wp2_with fail
  go_ret
  exact⟨none,0,rfl,Ay.nil _ _ _ _,fun _=>rfl,Al.refl _⟩
 ·have hn:=A4 hlen
  clear hlen hA;go_enter Tryz.func104,Tryz.ntmps104
  have hown0:Ay (w.alloc (.cells #[] 27)) w.heap.size 27 1 (some ⟨w.heap.size,0,none⟩) 0 0 []:=
   ⟨rfl,.inr ⟨w.heap.size,0,#[],rfl,Ai _,heap_alloc_new w _,Ai _,Nat.zero_le _,rfl,rfl⟩⟩
  have hx0:=Al.alloc w (.cells #[] 27);go_wp2_with (at_builtin;refine Fn rfl (.tmp 5) (.tmp 6) 41 rfl w w.heap.size 27 i0 (.slice none 0 0) 1 24 Tryz.underlying41 hi hz0 hz1 hz2 rfl (by decide) _ 0 0 [] rfl hown0 _ n c _ rfl (hl.ext hx0) ?_ ?_ ?_ hx0 (Ai _) hx0.hsize ?_)
  ·exact h1
  ·have:=hl.nmax;unfold maxLen at this ⊢;omega
  ·have:=HB.out;omega
  ·intro A' c' w' hown' hgr hor he'
   clear hgr hown0 hx0;have hnil:A'=none→c'=0:=by
    exact I77
   clear hor;go_wp2_with fail
   go_ret
   exact⟨A',c',rfl,by simpa using hown',hnil,he'⟩
theorem gU:(Tryz.prog.info? 40).map (·.size)=some 27:=by kernel_rfl
theorem Cu (h:cs.size=27):(Tryz.prog.info? 40).map (·.size)=some cs.size:=by rw[h];exact gU
def F6 (k:Int):Option (Nat×Bool):=
 if k=0 then some (0,false)else if 97≤k∧k≤122 then some ((k-96).toNat,false)else if 65≤k∧k≤90 then some ((k-64).toNat,true)else none
theorem Tt {m:Bool}(h:F6 k=some (i,m)):i<27:=by
 unfold F6 at h;split at h
 ·exact I110
 ·split at h
  ·exact I110
  ·split at h
   ·exact I110
   ·cases h
theorem bX (h:F6 k=none):k≠0∧¬(97≤k∧k≤122)∧¬(65≤k∧k≤90):=by
 unfold F6 at h;refine⟨fun h0=>?_,fun h1=>?_,fun h2=>?_⟩
 ·rw[if_pos h0]at h;cases h
 ·rw[if_neg (by omega),if_pos h1]at h;cases h
 ·rw[if_neg (by omega),if_neg (by omega),if_pos h2]at h;cases h
theorem mB {a b:Int}{x y:Value}(h:a=b):Ending.returned (.tuple #[.int .i64 a,x,y])=.returned (.tuple #[.int .i64 b,x,y]):=by rw[h]
theorem Rf {m:Bool}(w:World)(h:F6 k=some (i,m)):
 Calls Tryz.prog 156 #[.int .i64 k] w fun e w'=>e=.returned (.tuple #[.int .i64 i,.bool m,.bool true])∧w=w':=by
 unfold F6 at h;by_cases h0:k=0
 ·subst h0
  rw[if_pos rfl]at h;injection h with h;injection h with h1 h2;subst h1;subst h2;go_enter Tryz.func156,Tryz.ntmps156
  go_wp2_with fail
  go_ret3
  exact⟨rfl,rfl⟩
 rw[if_neg h0]at h;have e0:(k==0)=false:=by simpa using h0
 by_cases h1:97≤k∧k≤122
 ·rw[if_pos h1]at h
  injection h with h;injection h with h2 h3;obtain⟨h4,h5⟩:=h1;obtain rfl:k=(i:Int)+96:=by omega
  subst h3;have hi:1≤i∧i≤26:=by omega
  clear h2 h0;exact I55
 rw[if_neg h1]at h;by_cases h2:65≤k∧k≤90
 ·rw[if_pos h2]at h
  injection h with h;injection h with h3 h4;obtain⟨h5,h6⟩:=h2;obtain rfl:k=(i:Int)+64:=by omega
  subst h4;have hi:1≤i∧i≤26:=by omega
  have h7:decide (97≤(i:Int)+64)=false:=by simp;omega
  clear h3 h0 h1;exact I55
 ·rw[if_neg h2]at h;cases h
theorem Vt (w:World)(h:F6 k=none):
 Calls Tryz.prog 156 #[.int .i64 k] w fun e w'=>e=.returned (.tuple #[.int .i64 0,.bool false,.bool false])∧w=w':=by
 obtain⟨h0,h1,h2⟩:=bX h;have e0:(k==0)=false:=by simpa using h0
 have h3:k<65∨(90<k∧k<97)∨122<k:=by omega
 clear h h0 h1 h2;rcases h3 with h3|⟨h3,h4⟩|h3
 all_goals
  go_enter Tryz.func156,Tryz.ntmps156
  go_wp2_with fail
  go_ret3
  exact⟨rfl,rfl⟩
theorem jF {rs:Nat→List Int}(h:Ka w cs rs):
 Calls Tryz.prog 157 #[.agg cs] w fun e w'=>∃ds,e=.returned (.agg ds)∧E8 w' w.heap.size ds rs∧T8 ds 27∧Al w w':=by
 have H:=A4 h;have hcs:=h.1;clear h;obtain⟨z,hz⟩:∃z:Array Value,Bw=z:=⟨_,rfl⟩;have HZ:Hid (Bw=z):=A4 hz;have hb1:Hid (An ((w.alloc (.cells cs 40)).alloc (.cells Bw 40)) w.heap.size 40 cs):=A4 ((An.new w _ cs).ext (Al.alloc _ _));have hb2:Hid (An ((w.alloc (.cells cs 40)).alloc (.cells Bw 40)) (w.heap.size+1) 40 Bw):=A4 (by
  have:=An.new (w.alloc (.cells cs 40)) 40 Bw
  rwa[World.size_alloc]at this)
 have hE:Hid (Al w ((w.alloc (.cells cs 40)).alloc (.cells Bw 40))):=A4 ((Al.alloc _ _).to_alloc _);clear hz;go_enter Tryz.func157,Tryz.ntmps157
 go_wp2_with fail
 go_loopw [4] (fun s4 wx=>∃(i:Nat) (a:Array Value),i≤27∧s4=.int .i64 i∧Hid (a.size=27∧(∀j,j<i→∃v,a[j]? = some v∧Bg wx (w.heap.size+2) v (rs j))∧(∀j,i≤j→a[j]? = cs[j]?))∧Hid (An wx w.heap.size 40 a)∧Hid (An wx (w.heap.size+1) 40 Bw)∧Hid (Al w wx)∧Hid (T8 a i)) (fun s4 _=>27-(intOf s4).toNat)
 case atStart=>exact⟨0,cs,by omega,rfl,A4 ⟨hcs,fun j hj=>by omega,fun _ _=>rfl⟩,hb1,hb2,hE,A4 (fun j k g hj=>by omega)⟩
 case round=>
  clear hb1 hb2 hE;obtain⟨i,a,hi,rfl,Ha,Hb1,Hb2,He,Hap⟩:=hrel;have hle:=Hb2.out.lt;by_cases hlt:i<27
  ·obtain⟨v,hv,A,n,c,rfl,hI,hA,hn⟩:=H.out.2 i hlt
   have hc:wr.cell? ⟨w.heap.size,i,none⟩=some (.slice A n c):=by rw[Hb1.out.cell i,Ha.out.2.2 i (Ai _),hv]
   have HC:=A4 (Cy (hI.ext He.out) hA hn);clear hv hI;go_wp2_with fail
   refine HC.out.mono ?_
   rintro e w2 ⟨B,d,rfl,hO,hB,he2⟩;have Hb1':=A4 (An.ext Hb1.out he2);have Hb2':=A4 (An.ext Hb2.out he2);have HO:Hid (Bg w2 (w.heap.size+2) (.slice B n d) (rs i)):=A4 ⟨B,n,d,rfl,Ay.lower hO (by omega),hB,hn⟩
   have He2:=A4 (He.out.trans he2);have Ha2:Hid (a.size=27∧(∀j,j<i→∃v,a[j]? = some v∧Bg w2 (w.heap.size+2) v (rs j))∧(∀j,i≤j→a[j]? = cs[j]?)):=A4 ⟨Ha.out.1,fun j hj=>by obtain⟨v,h1,h2⟩:=Ha.out.2.1 j hj;exact⟨v,h1,h2.ext he2⟩,Ha.out.2.2⟩
   have Hap2:Hid (T8 (a.setIfInBounds i (.slice B n d)) (i+1)):=A4 (Hap.out.snoc (m:=wr.heap.size) (by rw[Ha.out.1];exact hlt) (fun j g hj hg=>by
    obtain⟨v,h1,h2⟩:=Ha.out.2.1 j hj;exact(h2.blk g (by unfold M7 at hg;rw[h1]at hg;exact hg)).2) (fun g hg=>(Ay.blk hO g hg).1))
   have hfr:=Hb1'.out.frozen i;have hc2:w2.cell? ⟨w.heap.size,i,none⟩=some (.slice A n c):=he2.cell hc;clear HC hO hB he2 hc Ha Hb1 Hb2 He hA hn Hap;go_wp2_with fail
   go_roundw
   case rel=>
    refine⟨i+1,a.setIfInBounds i (.slice B n d),by omega,by go_num,A4 ⟨by simpa using Ha2.out.1,fun j hj=>?_,fun j hj=>?_⟩,A4 (Hb1'.out.set_ i _),?_,A4 (He2.out.setCell (Ai _) _),Hap2⟩
    ·by_cases hji:j=i
     ·subst hji
      exact⟨_,by rw[Array.getElem?_setIfInBounds_self,if_pos (by rw[Ha2.out.1];exact hlt)],HO.out.setCell (show w.heap.size<w.heap.size+2 by omega) _⟩
     ·obtain⟨v,h1,h2⟩:=Ha2.out.2.1 j (by omega)
      exact⟨v,by rw[Array.getElem?_setIfInBounds_ne (by omega)];exact h1,h2.setCell (show w.heap.size<w.heap.size+2 by omega) _⟩
    ·exact I112
    ·exact A4 (Bh Hb2'.out (by omega) i _)
   case measure=>simp[intOf];omega
  ·obtain rfl:i=27:=by omega
   have hs:=Ha.out.1;have hone:a.all (·.oneCell')=true:=Ka.one (w:=wr) (rs:=rs) ⟨hs,fun j hj=>by obtain⟨v,h1,h2⟩:=Ha.out.2.1 j hj;exact⟨v,h1,h2.sl⟩⟩
   have hns:Bw.size=a.size:=by rw[hs];rfl
   go_wp2_with (first|(refine wpList_load_row rfl 40 (.tmp 1) rfl w.heap.size rfl 40 a (0,0) _ Hb1.out Tryz.underlying40 rfl (Cu hs) ?_)|(refine wpList_store_row rfl 40 (.tmp 2) (.tmp 14) rfl (w.heap.size+1) a rfl rfl 40 Bw Hb2.out (Cu hs) hns hone ?_))
   have HR:Hid (E8 (wr.setRow (w.heap.size+1) a) w.heap.size a rs):=A4 ⟨hs,fun j hj=>by obtain⟨v,h1,h2⟩:=Ha.out.2.1 j hj;exact⟨v,h1,(h2.setRow (show w.heap.size+1<w.heap.size+2 by omega) a).lower (by omega)⟩⟩
   have HX:=A4 (He.out.setRow (show w.heap.size≤w.heap.size+1 by omega) a)
   have hres:=Hb2.out.setRow a;refine bodyPost_ret (v:=.agg a) ?_ rfl ⟨a,rfl,HR.out,Hap.out,HX.out⟩
   exact results_cell_row rfl _ _ (w.heap.size+1) 40 _ _ _ rfl hres Tryz.underlying40 rfl (Cu hs)
theorem Dx {P:Program}{fn:Func}{p q:Tmp}{ty:TypeId}(h:fn.results=#[.cell p ty,.tmp q])(tmps:Array Value)(w:World)(g:Nat)(t:TypeId)(cs:Array Value)(fr:Nat×Nat)(d:TypeDesc)(v:Value)
 (hp:tmps.getD p undef=.pointer (some ⟨g,0,none⟩)) (hq:tmps.getD q undef=v) (hg:w.heap[g]? = some (.cells cs t fr))
 (hu:P.underlying ty=some d) (hd:(match d with|.struct _|.array _ _=>true|_=>false)=true) (hi:(P.info? ty).map (·.size)=some cs.size):
 (results fn tmps).run P w=.ok (.tuple #[.agg cs,v]) w:=by
 have hp':tmps[p]?.getD undef=.pointer (some ⟨g,0,none⟩):=by simpa using hp
 exact I38
theorem Mu:Bw.size=27:=rfl
theorem Ud:Bw.all (·.oneCell')=true:=by decide +kernel
section
variable {w:World} {cs:Array Value} {rs:Nat→List Int} {k:Int} {A:Option Addr} {n c:Nat} {text:List Int}
theorem P7 (w:World)(cs:Array Value)(t:TypeId):An ((w.alloc (.cells cs t)).alloc (.cells Bw t)) w.heap.size t cs∧An ((w.alloc (.cells cs t)).alloc (.cells Bw t)) (w.heap.size+1) t Bw∧Al w ((w.alloc (.cells cs t)).alloc (.cells Bw t)):=
 ⟨(An.new w _ cs).ext (Al.alloc _ _),by
  have:=An.new (w.alloc (.cells cs t)) t Bw
  rwa[World.size_alloc]at this,(Al.alloc _ _).to_alloc _⟩
theorem qN (h:F6 k=none):Calls Tryz.prog 145 #[.agg cs,.int .i64 k,.slice A n c] w fun e w'=>e=.returned (.tuple #[.agg Bw,.int .i64 9])∧Al w w':=by
 have N0:=trivial;exact yH
def G8 (rs:Nat→List Int)(i:Nat)(m:Bool)(text:List Int):Prop:=200<text.length∨(m=true∧200<(rs i).length+text.length)
theorem gX {i:Nat}{m:Bool}(hr:Ka w cs rs)(ht:Bi w A n c text)(h:F6 k=some (i,m))(hb:G8 rs i m text):
 Calls Tryz.prog 145 #[.agg cs,.int .i64 k,.slice A n c] w fun e w'=>e=.returned (.tuple #[.agg Bw,.int .i64 2])∧Al w w':=by
 have HN:=fun w=>A4 (Rf w h)
 have hi:=Tt h;obtain⟨v,hv,B,q,d,rfl,hI,hB,hq⟩:=hr.2 i hi;have hnl:=ht.len;have hnc:=ht.ncap;have hnm:=ht.nmax;have hql:=hI.len;unfold G8 at hb;rw[hnl,hql]at hb;obtain⟨H1,H2,H3⟩:=P7 w cs 40;have h2:=A4 H2;have h3:=A4 H3;have hnm':n≤9223372036854775807:=by unfold maxLen at hnm;omega
 have hqm:q≤9223372036854775807:=by omega
 clear h H1 H2 H3 hr ht hnl hql hI hnm hnc hB hq;by_cases hb1:200<n
 ·have N1:=trivial;exact yH
 ·have N2:=trivial;exact yH
end
end
