/-
  Part of the proof: ZRegA.
-/
import Derived.Test.YtkaefdmhlmlhbaaGreatZClone
import Derived.Laws.CopyOwn
import Derived.Laws.Tables
import Derived.Laws.Rows
set_option maxRecDepth 100000
set_option maxHeartbeats 16000000
set_option linter.unusedVariables false
set_option linter.unusedSimpArgs false
namespace Go.Proofs.YtkaefdmhlmlhbaaGreat
open Go.RowKit
open _root_.List renaming getElem?_append_left→Bo
open _root_.Nat renaming le_refl→Aj
open Value renaming slice→Ak
def L0 (w:World)(v:Value)(l:List Int):Prop:=∃A n c,v=.slice A n c∧Bj w A n c l∧(A=none→c=0)∧n*8≤140737488355328
def Bi (w:World)(b:Nat)(v:Value)(l:List Int):Prop:=∃A n c,v=.slice A n c∧Ay w b A n c l∧(A=none→c=0)∧n*8≤140737488355328
def Kl (w:World)(cs:Array Value)(rs:Nat→List Int):Prop:=cs.size=27∧∀i,i<27→∃v,cs[i]? = some v∧L0 w v (rs i)
def Eg (w:World)(b:Nat)(cs:Array Value)(rs:Nat→List Int):Prop:=cs.size=27∧∀i,i<27→∃v,cs[i]? = some v∧Bi w b v (rs i)
section
variable {w w':World} {v:Value} {l:List Int} {b:Nat} {cs:Array Value} {rs:Nat→List Int}
theorem L0.ext (h:L0 w v l)(he:Am w w'):L0 w' v l:=by
 exact I101
theorem Bi.ext (h:Bi w b v l)(he:Am w w'):Bi w' b v l:=by
 exact I101
theorem Bi.sl (h:Bi w b v l):L0 w v l:=by
 obtain⟨A,n,c,rfl,h1,h2,h3⟩:=h;exact⟨A,n,c,rfl,h1.ints,h2,h3⟩
theorem Bi.lower {b':Nat}(h:Bi w b v l)(hb:b'≤b):Bi w b' v l:=by
 obtain⟨A,n,c,rfl,h1,h2,h3⟩:=h;exact⟨A,n,c,rfl,B8.lower h1 hb,h2,h3⟩
theorem Bi.nil (w:World)(b:Nat):Bi w b (.slice none 0 0) []:=⟨none,0,0,rfl,Ay.nil _ _,fun _=>rfl,by omega⟩
theorem Bi.setCell (h:Bi w b v l){p:Addr}(hp:p.block<b)(u:Value):Bi (w.setCell p u) b v l:=by
 obtain⟨A,n,c,rfl,h1,h2,h3⟩:=h;exact⟨A,n,c,rfl,B8.setCell h1 hp u,h2,h3⟩
theorem B8.setRow {base e z n c:Nat}{A:Option Addr}{xs:List Value}(h:B8 w base e z A n c xs){g:Nat}(hg:g<base)(us:Array Value):B8 (w.setRow g us) base e z A n c xs:=by
 obtain⟨h1,h2⟩:=h;refine⟨h1,?_⟩
 rcases h2 with h2|⟨g',cap,cur,hv,hb,hg',r⟩
 ·exact .inl h2
 ·exact .inr ⟨g',cap,cur,hv,hb,(setRow_other w g g' us (by omega)).trans hg',r⟩
theorem Bi.setRow (h:Bi w b v l){g:Nat}(hg:g<b)(us:Array Value):Bi (w.setRow g us) b v l:=by
 obtain⟨A,n,c,rfl,h1,h2,h3⟩:=h;exact⟨A,n,c,rfl,B8.setRow h1 hg us,h2,h3⟩
theorem Kl.ext (h:Kl w cs rs)(he:Am w w'):Kl w' cs rs:=⟨h.1,fun i hi=>by obtain⟨v,h1,h2⟩:=h.2 i hi;exact⟨v,h1,h2.ext he⟩⟩
theorem Eg.ext (h:Eg w b cs rs)(he:Am w w'):Eg w' b cs rs:=⟨h.1,fun i hi=>by obtain⟨v,h1,h2⟩:=h.2 i hi;exact⟨v,h1,h2.ext he⟩⟩
theorem Eg.regs (h:Eg w b cs rs):Kl w cs rs:=⟨h.1,fun i hi=>by obtain⟨v,h1,h2⟩:=h.2 i hi;exact⟨v,h1,h2.sl⟩⟩
theorem Eg.lower {b':Nat}(h:Eg w b cs rs)(hb:b'≤b):Eg w b' cs rs:=⟨h.1,fun i hi=>by obtain⟨v,h1,h2⟩:=h.2 i hi;exact⟨v,h1,h2.lower hb⟩⟩
theorem Eg.setRow (h:Eg w b cs rs){g:Nat}(hg:g<b)(us:Array Value):Eg (w.setRow g us) b cs rs:=⟨h.1,fun i hi=>by obtain⟨v,h1,h2⟩:=h.2 i hi;exact⟨v,h1,h2.setRow hg us⟩⟩
theorem Eg.setCell (h:Eg w b cs rs){p:Addr}(hp:p.block<b)(u:Value):Eg (w.setCell p u) b cs rs:=⟨h.1,fun i hi=>by obtain⟨v,h1,h2⟩:=h.2 i hi;exact⟨v,h1,h2.setCell hp u⟩⟩
theorem Kl.one (h:Kl w cs rs):cs.all (·.oneCell')=true:=by
 rw[Array.all_eq_true];intro i hi;obtain⟨v,h1,A,n,c,rfl,_⟩:=h.2 i (by have:=h.1;omega)
 rw[Array.getElem?_eq_getElem hi]at h1;injection h1 with h1;rw[h1]
 rfl
theorem Am.setRow {w x:World}(h:Am w x){g:Nat}(hg:w.heap.size≤g)(us:Array Value):Am w (x.setRow g us):=below_setRow h hg us
theorem Ap.setRow {g:Nat}{t:TypeId}{old:Array Value}(h:Ap w g t old)(us:Array Value):Ap (w.setRow g us) g t us:=setRow_heap w g old us t _ h
theorem Ap.setRow_other {g g':Nat}{t:TypeId}{old:Array Value}(h:Ap w g t old)(us:Array Value)(hne:g≠g'):Ap (w.setRow g' us) g t old:=(Go.setRow_other w g' g us hne).trans h
end
theorem Bk {w:World}{g g':Nat}{t:TypeId}{cs:Array Value}(h:Ap w g t cs)(hne:g'≠g)(i:Nat)(u:Value):Ap (w.setCell ⟨g',i,none⟩ u) g t cs:=by
 unfold Ap at h ⊢;simp[World.setCell,Array.getElem?_modify,h,hne]
def Mt (a:Array Value)(j:Nat):Option Nat:=(a[j]?.getD (.slice none 0 0)).ownBlock
def Tq (a:Array Value)(n:Nat):Prop:=∀j k g,j<n→k<n→j≠k→Mt a j=some g→Mt a k≠some g
theorem Gw {a:Array Value}{i:Nat}{v:Value}(h:i<a.size):Mt (a.setIfInBounds i v) i=v.ownBlock:=by
 unfold Mt;rw[Array.getElem?_setIfInBounds_self,if_pos h];rfl
theorem Ho {a:Array Value}{i j:Nat}{v:Value}(h:i≠j):Mt (a.setIfInBounds i v) j=Mt a j:=by
 unfold Mt;rw[Array.getElem?_setIfInBounds_ne h]
theorem Bi.blk {w:World}{b:Nat}{v:Value}{l:List Int}(h:Bi w b v l):∀g,v.ownBlock=some g→b≤g∧g<w.heap.size:=by
 obtain⟨A,n,c,rfl,h1,_⟩:=h;exact B8.blk h1
theorem Tq.snoc {a:Array Value}{i m:Nat}{v:Value}(h:Tq a i)(hi:i<a.size)(hold:∀j g,j<i→Mt a j=some g→g<m)(hnew:∀g,v.ownBlock=some g→m≤g):Tq (a.setIfInBounds i v) (i+1):=by
 intro j k g hj hk hjk h1 h2;by_cases hji:j=i
 ·subst hji
  rw[Gw hi]at h1;rw[Ho hjk]at h2;have:=hnew g h1;have:=hold k g (by omega) h2
  omega
 ·rw[Ho (fun e=>hji e.symm)]at h1
  by_cases hki:k=i
  ·subst hki
   rw[Gw hi]at h2;have:=hnew g h2;have:=hold j g (by omega) h1
   omega
  ·rw[Ho (fun e=>hki e.symm)]at h2
   exact h j k g (by omega) (by omega) hjk h1 h2
def Bz:Array Value:=Array.replicate 27 (.slice none 0 0)
theorem Ut (w:World)(b:Nat):Eg w b Bz (fun _=>[]):=⟨rfl,fun i hi=>⟨.slice none 0 0,by unfold Bz;rw[Array.getElem?_replicate,if_pos hi],Bi.nil _ _⟩⟩
def gL (ls:List (List Int))(i:Nat):List Int:=ls[i]?.getD []
def LnV (w:World)(xs:List Value)(ls:List (List Int)):Prop:=xs.length=ls.length∧∀i,i<ls.length→∃v,xs[i]? = some v∧L0 w v (gL ls i)
def Vs (w:World)(A:Option Addr)(n c:Nat)(ls:List (List Int)):Prop:=∃xs,Rd w 1 A n c xs∧LnV w xs ls
def Sg (w:World)(b:Nat)(row:Option Nat)(xs:List Value)(ls:List (List Int)):Prop:=xs.length=ls.length∧∀i,i<ls.length→∃v,xs[i]? = some v∧Bi w b v (gL ls i)∧(v.ownBlock=none∨v.ownBlock≠row)
def Gk (w:World)(b:Nat)(A:Option Addr)(n c:Nat)(ls:List (List Int)):Prop:=∃xs,B8 w b 25 1 A n c xs∧Sg w b (Ak A n c).ownBlock xs ls∧(A=none→c=0)
section
variable {w w':World} {A:Option Addr} {n c b:Nat} {ls:List (List Int)} {xs:List Value} {row:Option Nat}
theorem LnV.ext (h:LnV w xs ls)(he:Am w w'):LnV w' xs ls:=⟨h.1,fun i hi=>by obtain⟨v,h1,h2⟩:=h.2 i hi;exact⟨v,h1,h2.ext he⟩⟩
theorem LnV.one (h:LnV w xs ls):∀u∈xs,u.oneCell'=true:=by
 intro u hu;obtain⟨i,hi,rfl⟩:=List.mem_iff_getElem.1 hu;obtain⟨v,h1,A,n,c,rfl,_⟩:=h.2 i (by rw[←h.1];exact hi)
 rw[List.getElem?_eq_getElem hi]at h1;injection h1 with h1;rw[h1];rfl
theorem Vs.ext (h:Vs w A n c ls)(he:Am w w'):Vs w' A n c ls:=by obtain⟨xs,h1,h2⟩:=h;exact⟨xs,Rd.ext h1 he,h2.ext he⟩
theorem Vs.len (h:Vs w A n c ls):ls.length=n:=by obtain⟨xs,h1,h2⟩:=h;have:=h1.len;rw[h2.1]at this;omega
theorem Vs.ncap (h:Vs w A n c ls):n≤c:=by obtain⟨xs,h1,h2⟩:=h;exact Rd.ncap h1
theorem Vs.nmax (h:Vs w A n c ls):c≤maxLen:=by obtain⟨xs,h1,h2⟩:=h;exact Rd.nmax h1
theorem Vs.at_ (h:Vs w A n c ls){k:Nat}(hk:k<n):∃ad v,A=some ad∧w.cell? (ad.add k)=some v∧L0 w v (gL ls k):=by
 have hl:=h.len;obtain⟨xs,h1,h2⟩:=h;obtain⟨ad,e,hc⟩:=h1.at_ hk;obtain⟨v,h3,h4⟩:=h2.2 k (by omega)
 exact⟨ad,v,e,hc k v h3,h4⟩
theorem Sg.lnv (h:Sg w b row xs ls):LnV w xs ls:=⟨h.1,fun i hi=>by obtain⟨v,h1,h2,_⟩:=h.2 i hi;exact⟨v,h1,h2.sl⟩⟩
theorem Sg.ext (h:Sg w b row xs ls)(he:Am w w'):Sg w' b row xs ls:=⟨h.1,fun i hi=>by obtain⟨v,h1,h2,h3⟩:=h.2 i hi;exact⟨v,h1,h2.ext he,h3⟩⟩
theorem Sg.setCell (h:Sg w b row xs ls){p:Addr}(hp:p.block<b)(u:Value):Sg (w.setCell p u) b row xs ls:=⟨h.1,fun i hi=>by obtain⟨v,h1,h2,h3⟩:=h.2 i hi;exact⟨v,h1,h2.setCell hp u,h3⟩⟩
theorem Sg.grown {row':Option Nat}(h:Sg w b row xs ls)(hg:w.grownBy w' row)(hr:row'=row∨∃g,w.heap.size≤g∧row'=some g):Sg w' b row' xs ls:=
 ⟨h.1,fun i hi=>by
  obtain⟨v,h1,⟨A,n,c,rfl,h2,h4⟩,h3⟩:=h.2 i hi;refine⟨_,h1,⟨A,n,c,rfl,B8.kept h2 hg h3,h4⟩,?_⟩
  rcases hr with rfl|⟨g,hgs,rfl⟩
  ·exact h3
  ·cases hb:(Ak A n c).ownBlock with
   |none=>exact .inl rfl
   |some g'=>
    have:=(B8.blk h2 g' hb).2;exact .inr (fun e=>by injection e with e;omega)⟩
theorem Q7k {l:List Int}{i:Nat}(h:i<ls.length):gL (ls++[l]) i=gL ls i:=by unfold gL;rw[Bo h]
theorem Q7l {l:List Int}:gL (ls++[l]) ls.length=l:=by unfold gL;simp
theorem Sg.snoc {l:List Int}{v:Value}(h:Sg w b row xs ls)(hv:Bi w b v l)(hr:v.ownBlock=none∨v.ownBlock≠row):Sg w b row (xs++[v]) (ls++[l]):=by
 refine⟨by simp[h.1],fun i hi=>?_⟩
 rw[List.length_append,List.length_singleton]at hi;rcases Nat.lt_or_ge i ls.length with hlt|hge
 ·obtain⟨u,h1,h2,h3⟩:=h.2 i hlt
  rw[Q7k hlt];exact⟨u,by rw[Bo (by rw[h.1];exact hlt)];exact h1,h2,h3⟩
 ·obtain rfl:i=ls.length:=by omega
  rw[Q7l];exact⟨v,by rw[List.getElem?_append_right (by rw[h.1];exact Aj _),h.1,Nat.sub_self];rfl,hv,hr⟩
theorem Sg.nil (w:World)(b:Nat)(row:Option Nat):Sg w b row [] []:=⟨rfl,fun i hi=>absurd hi (by simp)⟩
theorem Gk.nil (w:World)(b:Nat):Gk w b none 0 0 []:=⟨[],B8.nil _ _ _ _,Sg.nil _ _ _,fun _=>rfl⟩
theorem Gk.lns (h:Gk w b A n c ls):Vs w A n c ls:=by obtain⟨xs,h1,h2,_⟩:=h;exact⟨xs,B8.rd h1,h2.lnv⟩
theorem Gk.ext (h:Gk w b A n c ls)(he:Am w w'):Gk w' b A n c ls:=by obtain⟨xs,h1,h2,h3⟩:=h;exact⟨xs,B8.ext h1 he,h2.ext he,h3⟩
theorem Gk.setCell (h:Gk w b A n c ls){p:Addr}(hp:p.block<b)(u:Value):Gk (w.setCell p u) b A n c ls:=by obtain⟨xs,h1,h2,h3⟩:=h;exact⟨xs,B8.setCell h1 hp u,h2.setCell hp u,h3⟩
theorem Gk.setRow (h:Gk w b A n c ls){g:Nat}(hg:g<b)(us:Array Value):Gk (w.setRow g us) b A n c ls:=by
 obtain⟨xs,h1,h2,h3⟩:=h;exact⟨xs,B8.setRow h1 hg us,⟨h2.1,fun i hi=>by obtain⟨v,k1,k2,k3⟩:=h2.2 i hi;exact⟨v,k1,k2.setRow hg us,k3⟩⟩,h3⟩
theorem Gk.lower {b':Nat}(h:Gk w b A n c ls)(hb:b'≤b):Gk w b' A n c ls:=by
 obtain⟨xs,h1,h2,h3⟩:=h;exact⟨xs,B8.lower h1 hb,⟨h2.1,fun i hi=>by obtain⟨v,k1,k2,k3⟩:=h2.2 i hi;exact⟨v,k1,k2.lower hb,k3⟩⟩,h3⟩
end
theorem M9:(Tryz.prog.info? 25).map (fun i=>(i.zero,i.size,i.bytes))=some (some (.slice none 0 0),1,24):=by kernel_rfl
theorem J9b {A:Option Addr}{n c:Nat}{xs:List Value}{w:World}(hl:Rd w 1 A n c xs)(h1:∀u∈xs,u.oneCell'=true)(hA:A=none→c=0)(hb:n*24≤140737488355328):
 Calls Tryz.prog 158 #[.slice A n c] w fun e w'=>∃B d,e=.returned (.slice B n d)∧B8 w' w.heap.size 25 1 B n d xs∧(B=none→d=0)∧Am w w':=by
 obtain⟨i0,hi,hz0,hz1,hz2⟩:=info_parts M9;have hlen:=hl.len;have hnc:=hl.ncap;have hcm:=hl.nmax;have HB:=A6 hb;clear hb;unfold maxLen at hcm;have hq:∀w1:World,(binOp .eql 39 (.slice A n c) (.slice none 0 0)).run Tryz.prog w1=.ok (.bool A.isNone) w1:=fun w1=>Lib.run_eql_slice_nil w1 39 25 A n c 0 0 Tryz.underlying39
 rcases A with _|ad
 ·obtain rfl:=hA rfl
  obtain rfl:n=0:=by omega
  obtain rfl:xs=[]:=List.eq_nil_of_length_eq_zero (by omega)
  clear HB hi hz0 hz1 hz2;go_enter Tryz.func158,Tryz.ntmps158
  go_wp2_with fail
  go_ret
  exact⟨none,0,rfl,B8.nil _ _ _ _,fun _=>rfl,Am.refl _⟩
 ·have hn:=A6 hlen
  clear hlen hA;go_enter Tryz.func158,Tryz.ntmps158
  have hown0:B8 (w.alloc (.cells #[] 25)) w.heap.size 25 1 (some ⟨w.heap.size,0,none⟩) 0 0 []:=
   ⟨rfl,.inr ⟨w.heap.size,0,#[],rfl,Aj _,heap_alloc_new w _,Aj _,Nat.zero_le _,rfl,rfl⟩⟩
  have hx0:=Am.alloc w (.cells #[] 25);go_wp2_with (at_builtin;refine Ew rfl (.tmp 5) (.tmp 6) 39 rfl w w.heap.size 25 i0 (.slice none 0 0) 1 24 Tryz.underlying39 hi hz0 hz1 hz2 rfl (by decide) _ 0 0 [] rfl hown0 _ n c _ rfl (hl.ext hx0) ?_ ?_ ?_ hx0 (Aj _) hx0.hsize ?_)
  ·exact h1
  ·have:=hl.nmax;unfold maxLen at this ⊢;omega
  ·have:=HB.out;omega
  ·intro A' c' w' hown' hgr hor he'
   clear hgr hown0 hx0;have hnil:A'=none→c'=0:=by
    exact I73
   clear hor;go_wp2_with fail
   go_ret
   exact⟨A',c',rfl,by simpa using hown',hnil,he'⟩
theorem J7k:(Tryz.prog.info? 38).map (·.size)=some 27:=by kernel_rfl
theorem Cz {cs:Array Value}(h:cs.size=27):(Tryz.prog.info? 38).map (·.size)=some cs.size:=by rw[h];exact J7k
def Fm (k:Int):Option (Nat×Bool):=
 if k=0 then some (0,false)else if 97≤k∧k≤122 then some ((k-96).toNat,false)else if 65≤k∧k≤90 then some ((k-64).toNat,true)else none
theorem Ua {k:Int}{i:Nat}{m:Bool}(h:Fm k=some (i,m)):i<27:=by
 unfold Fm at h;split at h
 ·injection h with h;injection h with h _;omega
 ·split at h
  ·injection h with h;injection h with h _;omega
  ·split at h
   ·injection h with h;injection h with h _;omega
   ·cases h
theorem J2s {k:Int}(h:Fm k=none):k≠0∧¬(97≤k∧k≤122)∧¬(65≤k∧k≤90):=by
 unfold Fm at h;refine⟨fun h0=>?_,fun h1=>?_,fun h2=>?_⟩
 ·rw[if_pos h0]at h;cases h
 ·rw[if_neg (by omega),if_pos h1]at h;cases h
 ·rw[if_neg (by omega),if_neg (by omega),if_pos h2]at h;cases h
theorem Q1x {a b:Int}{x y:Value}(h:a=b):Ending.returned (.tuple #[.int .i64 a,x,y])=.returned (.tuple #[.int .i64 b,x,y]):=by rw[h]
theorem Rz {k:Int}{i:Nat}{m:Bool}(w:World)(h:Fm k=some (i,m)):
 Calls Tryz.prog 174 #[.int .i64 k] w fun e w'=>e=.returned (.tuple #[.int .i64 i,.bool m,.bool true])∧w=w':=by
 unfold Fm at h;by_cases h0:k=0
 ·subst h0
  rw[if_pos rfl]at h;injection h with h;injection h with h1 h2;subst h1;subst h2;go_enter Tryz.func174,Tryz.ntmps174
  go_wp2_with fail
  go_ret3
  exact⟨rfl,rfl⟩
 rw[if_neg h0]at h;have e0:(k==0)=false:=by simpa using h0
 by_cases h1:97≤k∧k≤122
 ·rw[if_pos h1]at h
  injection h with h;injection h with h2 h3;obtain⟨h4,h5⟩:=h1;obtain rfl:k=(i:Int)+96:=by omega
  subst h3;have hi:1≤i∧i≤26:=by omega
  clear h2 h0;exact I51
 rw[if_neg h1]at h;by_cases h2:65≤k∧k≤90
 ·rw[if_pos h2]at h
  injection h with h;injection h with h3 h4;obtain⟨h5,h6⟩:=h2;obtain rfl:k=(i:Int)+64:=by omega
  subst h4;have hi:1≤i∧i≤26:=by omega
  have h7:decide (97≤(i:Int)+64)=false:=by simp;omega
  clear h3 h0 h1;exact I51
 ·rw[if_neg h2]at h;cases h
theorem Ws {k:Int}(w:World)(h:Fm k=none):
 Calls Tryz.prog 174 #[.int .i64 k] w fun e w'=>e=.returned (.tuple #[.int .i64 0,.bool false,.bool false])∧w=w':=by
 obtain⟨h0,h1,h2⟩:=J2s h;have e0:(k==0)=false:=by simpa using h0
 have h3:k<65∨(90<k∧k<97)∨122<k:=by omega
 clear h h0 h1 h2;rcases h3 with h3|⟨h3,h4⟩|h3
 all_goals
  go_enter Tryz.func174,Tryz.ntmps174
  go_wp2_with fail
  go_ret3
  exact⟨rfl,rfl⟩
theorem J8x {cs:Array Value}{rs:Nat→List Int}{w:World}(h:Kl w cs rs):
 Calls Tryz.prog 175 #[.agg cs] w fun e w'=>∃ds,e=.returned (.agg ds)∧Eg w' w.heap.size ds rs∧Tq ds 27∧Am w w':=by
 have H:=A6 h;have hcs:=h.1;clear h;obtain⟨z,hz⟩:∃z:Array Value,Bz=z:=⟨_,rfl⟩;have HZ:Hid (Bz=z):=A6 hz;have hb1:Hid (Ap ((w.alloc (.cells cs 38)).alloc (.cells Bz 38)) w.heap.size 38 cs):=A6 ((Ap.new w _ cs).ext (Am.alloc _ _));have hb2:Hid (Ap ((w.alloc (.cells cs 38)).alloc (.cells Bz 38)) (w.heap.size+1) 38 Bz):=A6 (by
  have:=Ap.new (w.alloc (.cells cs 38)) 38 Bz
  rwa[World.size_alloc]at this)
 have hE:Hid (Am w ((w.alloc (.cells cs 38)).alloc (.cells Bz 38))):=A6 ((Am.alloc _ _).to_alloc _);clear hz;go_enter Tryz.func175,Tryz.ntmps175
 go_wp2_with fail
 go_loopw [4] (fun s4 wx=>∃(i:Nat) (a:Array Value),i≤27∧s4=.int .i64 i∧Hid (a.size=27∧(∀j,j<i→∃v,a[j]? = some v∧Bi wx (w.heap.size+2) v (rs j))∧(∀j,i≤j→a[j]? = cs[j]?))∧Hid (Ap wx w.heap.size 38 a)∧Hid (Ap wx (w.heap.size+1) 38 Bz)∧Hid (Am w wx)∧Hid (Tq a i)) (fun s4 _=>27-(intOf s4).toNat)
 case atStart=>exact⟨0,cs,by omega,rfl,A6 ⟨hcs,fun j hj=>by omega,fun _ _=>rfl⟩,hb1,hb2,hE,A6 (fun j k g hj=>by omega)⟩
 case round=>
  clear hb1 hb2 hE;obtain⟨i,a,hi,rfl,Ha,Hb1,Hb2,He,Hap⟩:=hrel;have hle:=Hb2.out.lt;by_cases hlt:i<27
  ·obtain⟨v,hv,A,n,c,rfl,hI,hA,hn⟩:=H.out.2 i hlt
   have hc:wr.cell? ⟨w.heap.size,i,none⟩=some (.slice A n c):=by rw[Hb1.out.cell i,Ha.out.2.2 i (Aj _),hv]
   have HC:=A6 (D3 (hI.ext He.out) hA hn);clear hv hI;go_wp2_with fail
   refine HC.out.mono ?_
   rintro e w2 ⟨B,d,rfl,hO,hB,he2⟩;have Hb1':=A6 (Ap.ext Hb1.out he2);have Hb2':=A6 (Ap.ext Hb2.out he2);have HO:Hid (Bi w2 (w.heap.size+2) (.slice B n d) (rs i)):=A6 ⟨B,n,d,rfl,B8.lower hO (by omega),hB,hn⟩
   have He2:=A6 (He.out.trans he2);have Ha2:Hid (a.size=27∧(∀j,j<i→∃v,a[j]? = some v∧Bi w2 (w.heap.size+2) v (rs j))∧(∀j,i≤j→a[j]? = cs[j]?)):=A6 ⟨Ha.out.1,fun j hj=>by obtain⟨v,h1,h2⟩:=Ha.out.2.1 j hj;exact⟨v,h1,h2.ext he2⟩,Ha.out.2.2⟩
   have Hap2:Hid (Tq (a.setIfInBounds i (.slice B n d)) (i+1)):=A6 (Hap.out.snoc (m:=wr.heap.size) (by rw[Ha.out.1];exact hlt) (fun j g hj hg=>by
    obtain⟨v,h1,h2⟩:=Ha.out.2.1 j hj;exact(h2.blk g (by unfold Mt at hg;rw[h1]at hg;exact hg)).2) (fun g hg=>(B8.blk hO g hg).1))
   have hfr:=Hb1'.out.frozen i;have hc2:w2.cell? ⟨w.heap.size,i,none⟩=some (.slice A n c):=he2.cell hc;clear HC hO hB he2 hc Ha Hb1 Hb2 He hA hn Hap;go_wp2_with fail
   go_roundw
   case rel=>
    refine⟨i+1,a.setIfInBounds i (.slice B n d),by omega,by go_num,A6 ⟨by simpa using Ha2.out.1,fun j hj=>?_,fun j hj=>?_⟩,A6 (Hb1'.out.set_ i _),?_,A6 (He2.out.setCell (Aj _) _),Hap2⟩
    ·by_cases hji:j=i
     ·subst hji
      exact⟨_,by rw[Array.getElem?_setIfInBounds_self,if_pos (by rw[Ha2.out.1];exact hlt)],HO.out.setCell (show w.heap.size<w.heap.size+2 by omega) _⟩
     ·obtain⟨v,h1,h2⟩:=Ha2.out.2.1 j (by omega)
      exact⟨v,by rw[Array.getElem?_setIfInBounds_ne (by omega)];exact h1,h2.setCell (show w.heap.size<w.heap.size+2 by omega) _⟩
    ·exact I106
    ·exact A6 (Bk Hb2'.out (by omega) i _)
   case measure=>simp[intOf];omega
  ·obtain rfl:i=27:=by omega
   have hs:=Ha.out.1;have hone:a.all (·.oneCell')=true:=Kl.one (w:=wr) (rs:=rs) ⟨hs,fun j hj=>by obtain⟨v,h1,h2⟩:=Ha.out.2.1 j hj;exact⟨v,h1,h2.sl⟩⟩
   have hns:Bz.size=a.size:=by rw[hs];rfl
   go_wp2_with (first|(refine wpList_load_row rfl 38 (.tmp 1) rfl w.heap.size rfl 38 a (0,0) _ Hb1.out Tryz.underlying38 rfl (Cz hs) ?_)|(refine wpList_store_row rfl 38 (.tmp 2) (.tmp 14) rfl (w.heap.size+1) a rfl rfl 38 Bz Hb2.out (Cz hs) hns hone ?_))
   have HR:Hid (Eg (wr.setRow (w.heap.size+1) a) w.heap.size a rs):=A6 ⟨hs,fun j hj=>by obtain⟨v,h1,h2⟩:=Ha.out.2.1 j hj;exact⟨v,h1,(h2.setRow (show w.heap.size+1<w.heap.size+2 by omega) a).lower (by omega)⟩⟩
   have HX:=A6 (He.out.setRow (show w.heap.size≤w.heap.size+1 by omega) a)
   have hres:=Hb2.out.setRow a;refine bodyPost_ret (v:=.agg a) ?_ rfl ⟨a,rfl,HR.out,Hap.out,HX.out⟩
   exact results_cell_row rfl _ _ (w.heap.size+1) 38 _ _ _ rfl hres Tryz.underlying38 rfl (Cz hs)
theorem E6 {P:Program}{fn:Func}{p q:Tmp}{ty:TypeId}(h:fn.results=#[.cell p ty,.tmp q])(tmps:Array Value)(w:World)(g:Nat)(t:TypeId)(cs:Array Value)(fr:Nat×Nat)(d:TypeDesc)(v:Value)
 (hp:tmps.getD p undef=.pointer (some ⟨g,0,none⟩)) (hq:tmps.getD q undef=v) (hg:w.heap[g]? = some (.cells cs t fr))
 (hu:P.underlying ty=some d) (hd:(match d with|.struct _|.array _ _=>true|_=>false)=true) (hi:(P.info? ty).map (·.size)=some cs.size):
 (results fn tmps).run P w=.ok (.tuple #[.agg cs,v]) w:=by
 have hp':tmps[p]?.getD undef=.pointer (some ⟨g,0,none⟩):=by simpa using hp
 exact I36
theorem Ns:Bz.size=27:=rfl
theorem Uu:Bz.all (·.oneCell')=true:=by decide +kernel
section
variable {w:World} {cs:Array Value} {rs:Nat→List Int} {k:Int} {A:Option Addr} {n c:Nat} {text:List Int}
theorem Pu (w:World)(cs:Array Value)(t:TypeId):Ap ((w.alloc (.cells cs t)).alloc (.cells Bz t)) w.heap.size t cs∧Ap ((w.alloc (.cells cs t)).alloc (.cells Bz t)) (w.heap.size+1) t Bz∧Am w ((w.alloc (.cells cs t)).alloc (.cells Bz t)):=
 ⟨(Ap.new w _ cs).ext (Am.alloc _ _),by
  have:=Ap.new (w.alloc (.cells cs t)) t Bz
  rwa[World.size_alloc]at this,(Am.alloc _ _).to_alloc _⟩
theorem Q5z (h:Fm k=none):Calls Tryz.prog 148 #[.agg cs,.int .i64 k,.slice A n c] w fun e w'=>e=.returned (.tuple #[.agg Bz,.int .i64 9])∧Am w w':=by
 have N0:=trivial;exact K36
def Gl (rs:Nat→List Int)(i:Nat)(m:Bool)(text:List Int):Prop:=200<text.length∨(m=true∧200<(rs i).length+text.length)
theorem J7m {i:Nat}{m:Bool}(hr:Kl w cs rs)(ht:Bj w A n c text)(h:Fm k=some (i,m))(hb:Gl rs i m text):
 Calls Tryz.prog 148 #[.agg cs,.int .i64 k,.slice A n c] w fun e w'=>e=.returned (.tuple #[.agg Bz,.int .i64 2])∧Am w w':=by
 have HN:=fun w=>A6 (Rz w h)
 have hi:=Ua h;obtain⟨v,hv,B,q,d,rfl,hI,hB,hq⟩:=hr.2 i hi;have hnl:=ht.len;have hnc:=ht.ncap;have hnm:=ht.nmax;have hql:=hI.len;unfold Gl at hb;rw[hnl,hql]at hb;obtain⟨H1,H2,H3⟩:=Pu w cs 38;have h2:=A6 H2;have h3:=A6 H3;have hnm':n≤9223372036854775807:=by unfold maxLen at hnm;omega
 have hqm:q≤9223372036854775807:=by omega
 clear h H1 H2 H3 hr ht hnl hql hI hnm hnc hB hq;by_cases hb1:200<n
 ·have N1:=trivial;exact K36
 ·have N2:=trivial;exact K36
end
