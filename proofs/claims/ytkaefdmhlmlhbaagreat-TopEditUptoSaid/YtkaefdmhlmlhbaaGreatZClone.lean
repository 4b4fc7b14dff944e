/-
  Part ZClone.
-/
import Derived.Test.YtkaefdmhlmlhbaaGreatZRopeM
import Derived.Lib.SliceRun
import Derived.Deep.RegionHeld3
set_option maxRecDepth 100000
set_option maxHeartbeats 16000000
set_option linter.unusedVariables false
set_option linter.unusedSimpArgs false
namespace Go.Proofs.YtkaefdmhlmlhbaaGreat
open Go.RowKit
open _root_.Nat renaming le_refl→Aj
open _root_.List renaming getElem?_append_left→Bp,getElem?_append_right→Bu
open Value renaming slice→Ak
section
variable {e:List Ga}{w w':World}{base n c:Nat}{A B:Option Addr}{xs:List Value}{row:Option Nat}{l p s:List Int}{v:Value}
theorem D3 (hl:Bl w A n c l)(hA:A=none→c=0)(hb:n*8≤140737488355328):
 Calls Tryz.prog 35 #[.slice A n c] w fun e w'=>∃B d,e=.returned (.slice B n d)∧Av w' w.heap.size B n d l∧(B=none→d=0)∧An w w':=by
 obtain⟨i0,hi,hz0,hz1,hz2⟩:=info_parts Cb;have hlen:=hl.len;have hnc:=hl.ncap;have hcm:=hl.nmax;have HB:=A6 hb;clear hb;unfold maxLen at hcm;have hq:∀w1:World,(binOp .eql 25 (.slice A n c) (.slice none 0 0)).run Tryz.prog w1=.ok (.bool A.isNone) w1:=fun w1=>Lib.run_eql_slice_nil w1 25 3 A n c 0 0 Tryz.underlying25
 rcases A with _|ad
 ·obtain rfl:=hA rfl
  obtain rfl:n=0:=by omega
  obtain rfl:l=[]:=List.eq_nil_of_length_eq_zero hlen;clear HB hi hz0 hz1 hz2;go_enter Tryz.func35,Tryz.ntmps35
  go_wp2_with fail
  go_ret
  exact⟨none,0,rfl,Av.nil _ _,fun _=>rfl,An.refl _⟩
 ·have hn:=A6 hlen
  clear hlen hA;go_enter Tryz.func35,Tryz.ntmps35
  have hown0:Bd (w.alloc (.cells #[] 3)) w.heap.size 3 1 (some ⟨w.heap.size,0,none⟩) 0 0 []:=
   ⟨rfl,.inr ⟨w.heap.size,0,#[],rfl,Aj _,heap_alloc_new w _,Aj _,Nat.zero_le _,rfl,rfl⟩⟩
  have hx0:=An.alloc w (.cells #[] 3);go_wp2_with (at_builtin;refine Ep rfl (.tmp 5) (.tmp 6) 25 rfl w w.heap.size 3 i0 (.int .i64 0) 1 8 Tryz.underlying25 hi hz0 hz1 hz2 rfl (by decide) _ 0 0 [] rfl hown0 _ n c _ rfl (hl.ext hx0) ?_ ?_ ?_ hx0 (Aj _) hx0.hsize ?_)
  ·exact hl.one
  ·have:=hl.nmax;unfold maxLen at this ⊢;omega
  ·have:=HB.out;omega
  ·intro A' c' w' hown' hgr hor he'
   clear hgr hown0 hx0;have hnil:A'=none→c'=0:=by
    exact I78
   clear hor;go_wp2_with fail
   go_ret
   exact⟨A',c',rfl,hown',hnil,he'⟩
def cutA (A:Option Addr)(c a:Nat):Option Addr:=if c=a then A else A.map (·.add a)
theorem Y8 {c a:Nat}(hA:A=none→c=0)(h:cutA A c a=none):c-a=0:=by
 unfold cutA at h;split at h
 ·omega
 ·cases A with
  |none=>have:=hA rfl;omega
  |some ad=>cases h
theorem Bl.cutA (h:Bl w A n c l){a b:Nat}(h1:a≤b)(h2:b≤n):Bl w (cutA A c a) (b-a) (c-a) ((l.drop a).take (b-a)):=h.cut h1 h2
theorem Bl.tailA (h:Bl w A n c l){a:Nat}(h1:a≤n):Bl w (Go.Proofs.YtkaefdmhlmlhbaaGreat.cutA A c a) (n-a) (c-a) (l.drop a):=by
 have:=h.cutA h1 (Aj n)
 rwa[List.take_of_length_le (by rw[List.length_drop,h.len];exact Aj _)]at this
theorem Y5:Tryz.prog.underlying 25=some (.slice (Tryz.prog.elem 25)):=by kernel_rfl
theorem aK (w:World):(sizeOf (Tryz.prog.elem 25)).run Tryz.prog w=.ok 1 w:=by kernel_rfl
theorem Ux (A:Option Addr)(n c a b:Nat)(h1:a≤b)(h2:b≤c)(u:World):
 (Instr.slice 25 (.slice A n c) (some (.int .i64 (a:Int))) (some (.int .i64 (b:Int))) none).run Tryz.prog u=.ok (.slice (cutA A c a) (b-a) (c-a)) u:=by
 rw[run_slice_lh u 25 A n c Y5 .i64 .i64 a b (by omega) (by omega) (by omega),aK]
 simp[sliced,cutA,Result.andThen]
theorem Sn (A:Option Addr)(n c a:Nat)(h1:a≤n)(u:World):
 (Instr.slice 25 (.slice A n c) (some (.int .i64 (a:Int))) none none).run Tryz.prog u=.ok (.slice (cutA A c a) (n-a) (c-a)) u:=by
 rw[run_slice_l u 25 A n c Y5 .i64 a (by omega) (by omega),aK]
 simp[sliced,cutA,Result.andThen]
def Nb (p l:List Int):Bool:=if gI p 0=94 then Zm (p.drop 1) (l.take (p.length-1))&&decide (p.length-1≤l.length)else decide (Yp p l≠[])
def J2i (p s:List Int)(e:Ending):Prop:=∃z x:Int,e=.returned (.tuple #[.int .i64 z,.int .i64 x])∧(x=if Yp p s=[]then 6 else 0)
theorem pP (p s:List Int)(i j:Nat):0≤gI (M6 p s i) j:=by
 unfold gI M6;rw[List.getElem?_map];cases ((List.range (i+1-p.length)).filter fun x=>decide (occ p s x))[j]? with
 |none=>simp
 |some x=>simp
theorem uV {n m c d:Nat}(hp:Bl w A n c p)(hs:Bl w B m d s)(hn:n≤4096)(h0:0<n)(hm:m≤4096):
 Calls Tryz.prog 157 #[.slice A n c,.slice B m d,.int .i64 0] w fun e w'=>J2i p s e∧An w w':=by
 have HA:=A6 (sZ hp hs hn h0 hm);clear hp hs;go_enter Tryz.func157,Tryz.ntmps157
 go_wp2_with fail
 refine HA.out.mono ?_
 rintro e w1 ⟨C,q,y,rfl,hown,he1⟩;have hI:=A6 hown.ints;have hX:=A6 he1;have hql:=A6 hown.ints.len;have hq0:=hI.out.ncap;have hq1:=hI.out.nmax;unfold maxLen at hq1;clear HA hown he1;by_cases hz:0<q
 ·have HN:Hid (Yp p s≠[]):=A6 (fun e=>by have:=hql.out;rw[e]at this;simp at this;omega)
  obtain⟨ca,rfl,hc⟩:=hI.out.at_ hz;have c0:=hc 0 hz;have hpos:0≤gI (Yp p s) 0:=pP _ _ _ _;clear hc;rw[Du]at c0;go_wp2_with fail
  go_loopw [23] (fun i wr=>i=.int .i64 0∧w1=wr) (fun _ _=>0)
  case atStart=>exact⟨rfl,rfl⟩
  case round=>
   obtain⟨rfl,rfl⟩:=hrel;go_wp2_with fail
   go_ret2
   exact⟨⟨_,_,rfl,by rw[if_neg HN.out]⟩,hX.out⟩
 ·obtain rfl:q=0:=by omega
  have HN:Hid (Yp p s=[]):=A6 (List.eq_nil_of_length_eq_zero hql.out);go_wp2_with fail
  go_loopw [23] (fun i wr=>i=.int .i64 0∧w1=wr) (fun _ _=>0)
  case atStart=>exact⟨rfl,rfl⟩
  case round=>
   obtain⟨rfl,rfl⟩:=hrel;go_wp2_with fail
   go_ret2
   exact⟨⟨_,_,rfl,by rw[if_pos HN.out]⟩,hX.out⟩
theorem cE {n m c d:Nat}(hp:Bl w A n c p)(hs:Bl w B m d s)(hn:n≤4096)(h0:0<n)(hm:m≤4096):
 Calls Tryz.prog 126 #[.slice A n c,.slice B m d] w fun e w'=>e=.returned (.bool (Nb p s))∧An w w':=by
 have HP:=A6 hp;have HS:=A6 hs;have hpl:=A6 hp.len;have hsl:=A6 hs.len;have hq0:=hp.ncap;have hq1:=hp.nmax;have hr0:=hs.ncap;have hr1:=hs.nmax;unfold maxLen at hq1 hr1;obtain⟨ca,rfl,hc⟩:=hp.at_ h0;have c0:=hc 0 h0;rw[Du]at c0;clear hc hp hs;by_cases hk:gI p 0=94
 ·have e1:(gI p 0==94)=true:=by simpa using hk
  have HK:=A6 hk;have hcut:=Sn (some ca) n c 1 (by omega)
  clear hk;have HT:=A6 (HP.out.tailA (a:=1) (by omega))
  have hc1:c=1∨c≠1:=by omega
  by_cases hle:n-1≤m
  ·have HF:Hid (Nb p s=Zm (p.drop 1) (s.take (n-1))):=A6 (by
    unfold Nb;rw[if_pos HK.out,hpl.out,hsl.out,decide_eq_true hle,Bool.and_true])
   have HQ:=A6 (Sv HT.out (HS.out.front hle));have hle2:((n-1:Nat):Int)≤(m:Int):=by omega
   clear HT hpl hsl;rcases hc1 with rfl|hc1
   ·obtain rfl:n=1:=by omega
    have HQ2:Hid (Calls Tryz.prog 12 #[.slice (some ca) 0 0,.slice B 0 d] w fun e w'=>e=.returned (.bool (Zm (p.drop 1) (s.take (1-1))))∧An w w'):=HQ
    clear HQ hcut;go_enter Tryz.func126,Tryz.ntmps126
    go_wp2_with fail
    refine HQ2.out.mono ?_
    rintro e w1 ⟨rfl,he1⟩;clear HQ2;go_wp2_with fail
    go_ret
    refine⟨Gf (a:=Zm p.tail []) ?_,he1⟩
    rw[HF.out];simp
   ·have HQ2:Hid (Calls Tryz.prog 12 #[.slice (some ⟨ca.block,ca.off+1,none⟩) (n-1) (c-1),.slice B (n-1) d] w fun e w'=>e=.returned (.bool (Zm (p.drop 1) (s.take (n-1))))∧An w w'):=A6 (by
     have:=HQ.out;unfold cutA at this;rw[if_neg hc1]at this;exact this)
    clear HQ hcut;go_enter Tryz.func126,Tryz.ntmps126
    go_wp2_with fail
    refine HQ2.out.mono ?_
    rintro e w1 ⟨rfl,he1⟩;clear HQ2;go_wp2_with fail
    go_ret
    refine⟨Gf (a:=Zm p.tail (List.take (n-1) s)) ?_,he1⟩
    rw[HF.out];simp
  ·have HF:Hid (Nb p s=false):=A6 (by
    unfold Nb;rw[if_pos HK.out,hpl.out,hsl.out,decide_eq_false hle,Bool.and_false])
   have hle2:m<n-1:=by omega
   clear hpl hsl hle HT hcut;rcases hc1 with rfl|hc1
   ·omega
   ·go_enter Tryz.func126,Tryz.ntmps126
    go_wp2_with fail
    go_ret
    refine⟨Gf (a:=false) ?_,An.refl _⟩
    rw[HF.out]
 ·have e1:(gI p 0==94)=false:=by simpa using hk
  have HN:=A6 (uV HP.out HS.out hn h0 hm);have HF:Hid (Nb p s=decide (Yp p s≠[])):=A6 (by unfold Nb;rw[if_neg hk])
  clear hk hpl hsl;go_enter Tryz.func126,Tryz.ntmps126
  go_wp2_with fail
  refine HN.out.mono ?_
  rintro e w1 ⟨⟨z,x,rfl,hx⟩,he1⟩;have HX:=A6 hx;clear HN hx;go_wp2_with fail
  go_ret
  refine⟨Gf ?_,he1⟩
  rw[HF.out,HX.out];by_cases h:Yp p s=[]<;>simp[h]
def J2u (a:Nat)(e:List Ga):Prop:=∀s∈e.head?,(a:Int)≤s.f
def Ht (w:World)(base:Nat)(row:Option Nat)(xs:List Value)(e:List Ga):Prop:=
 xs.length=e.length*3∧∀i,i<e.length→∃B m d,xs[i*3]? = some (.int .i64 (gE e i).f)∧xs[i*3+1]? = some (.int .i64 (gE e i).t)∧xs[i*3+2]? = some (.slice B m d)∧
  Av w base B m d (gE e i).x∧(B=none→d=0)∧((Ak B m d).ownBlock=none∨(Ak B m d).ownBlock≠row)
theorem Ht.edits (h:Ht w base row xs e):aC w xs e:=
 ⟨h.1,fun i hi=>let ⟨B,m,d,h1,h2,h3,h4,h5,_⟩:=h.2 i hi;⟨B,m,d,h1,h2,h3,h4.ints,h5⟩⟩
theorem Ht.ext (h:Ht w base row xs e)(he:An w w'):Ht w' base row xs e:=
 ⟨h.1,fun i hi=>let ⟨B,m,d,h1,h2,h3,h4,h5,h6⟩:=h.2 i hi;⟨B,m,d,h1,h2,h3,h4.ext he,h5,h6⟩⟩
theorem Ht.grown {row row':Option Nat}(h:Ht w base row xs e)(hg:w.grownBy w' row)(hr:row'=row∨∃g,w.heap.size≤g∧row'=some g):Ht w' base row' xs e:=
 ⟨h.1,fun i hi=>by
  obtain⟨B,m,d,h1,h2,h3,h4,h5,h6⟩:=h.2 i hi;refine⟨B,m,d,h1,h2,h3,Bd.kept h4 hg h6,h5,?_⟩
  rcases hr with rfl|⟨g,hgs,rfl⟩
  ·exact h6
  ·cases hb:(Ak B m d).ownBlock with
   |none=>exact .inl rfl
   |some g'=>
    have:=(Bd.blk h4 g' hb).2;exact .inr (fun e=>by injection e with e;omega)⟩
theorem Ht.nil (w:World)(base:Nat)(row:Option Nat):Ht w base row [] []:=⟨rfl,fun i hi=>absurd hi (by simp)⟩
def E6 (w:World)(base:Nat)(v:Value)(e:List Ga):Prop:=∃O k c xs row,v=.slice O k c∧Bd w base 268 3 O k c xs∧Ht w base row xs e
theorem E6.nil (w:World)(base:Nat):E6 w base (.slice none 0 0) []:=⟨none,0,0,[],none,rfl,World.ownsRow_nil _ _ _ _,Ht.nil _ _ _⟩
theorem E6.ext (h:E6 w base v e)(he:An w w'):E6 w' base v e:=
 let ⟨O,k,c,xs,row,h1,h2,h3⟩:=h;⟨O,k,c,xs,row,h1,Bd.ext h2 he,h3.ext he⟩
theorem E6.at_ (h:E6 w base v e):∃O k c,v=.slice O k c∧J9 w O k c e:=
 let ⟨O,k,c,xs,row,h1,h2,h3⟩:=h;⟨O,k,c,h1,xs,h2.rd,h3.edits⟩
theorem E6.lower {base base':Nat}(h:E6 w base v e)(hb:base'≤base):E6 w base' v e:=
 let ⟨O,k,c,xs,row,h1,h2,h3⟩:=h;⟨O,k,c,xs,row,h1,Bd.lower h2 hb,h3.1,fun i hi=>let ⟨B,m,d,k1,k2,k3,k4,k5,k6⟩:=h3.2 i hi;⟨B,m,d,k1,k2,k3,Bd.lower k4 hb,k5,k6⟩⟩
theorem E6.kept (h:E6 w base v e){g:Option Nat}(hg:w.grownBy w' g)(hb:∀k,g=some k→k<base):E6 w' base v e:=by
 obtain⟨O,k,c,xs,row,h1,h2,h3⟩:=h;have key:∀{e' z n' c':Nat} {A:Option Addr} {ys:List Value},Bd w base e' z A n' c' ys→Bd w' base e' z A n' c' ys:=fun ho=>Bd.kept ho hg (by
  cases hq:(Ak _ _ _).ownBlock with
  |none=>exact .inl rfl
  |some q=>exact .inr (fun e=>by have h4:=hb q e.symm;have h5:=(Bd.blk ho q hq).1;omega))
 exact⟨O,k,c,xs,row,h1,key h2,h3.1,fun i hi=>let ⟨B,m,d,k1,k2,k3,k4,k5,k6⟩:=h3.2 i hi;⟨B,m,d,k1,k2,k3,key k4,k5,k6⟩⟩
theorem vX {s:Ga}{i:Nat}(h:i<e.length):gE (e++[s]) i=gE e i:=by
 unfold gE;rw[Bp h]
theorem vY {s:Ga}:gE (e++[s]) e.length=s:=by
 unfold gE;simp
theorem Ht.snoc (h:Ht w base row xs e){s:Ga}{B:Option Addr}{m d:Nat}(ho:Av w base B m d s.x)(hn:B=none→d=0)
 (hr:(Ak B m d).ownBlock=none∨(Ak B m d).ownBlock≠row):Ht w base row (xs++[.int .i64 s.f,.int .i64 s.t,.slice B m d]) (e++[s]):=by
 obtain⟨h1,h2⟩:=h;refine⟨by simp;omega,fun i hi=>?_⟩
 rw[List.length_append]at hi;rcases Nat.lt_or_ge i e.length with hlt|hge
 ·obtain⟨B',m',d',k1,k2,k3,k4,k5,k6⟩:=h2 i hlt
  rw[vX hlt];refine⟨B',m',d',?_,?_,?_,k4,k5,k6⟩
  ·rw[Bp (by omega)];exact k1
  ·rw[Bp (by omega)];exact k2
  ·rw[Bp (by omega)];exact k3
 ·obtain rfl:i=e.length:=by simp at hi;omega
  rw[vY];refine⟨B,m,d,?_,?_,?_,ho,hn,hr⟩
  ·rw[Bu (by omega),h1,Nat.sub_self];rfl
  ·rw[Bu (by omega),h1,show e.length*3+1-e.length*3=1 by omega];rfl
  ·rw[Bu (by omega),h1,show e.length*3+2-e.length*3=2 by omega];rfl
end
