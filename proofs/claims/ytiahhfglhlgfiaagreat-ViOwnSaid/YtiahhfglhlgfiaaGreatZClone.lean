/-
  Part ZClone.
-/
import Derived.Test.YtiahhfglhlgfiaaGreatZWordW
import Derived.Lib.SliceRun
import Derived.Deep.RegionHeld3
set_option maxRecDepth 100000
set_option maxHeartbeats 16000000
set_option linter.unusedVariables false
set_option linter.unusedSimpArgs false
namespace Go.Proofs.YtiahhfglhlgfiaaGreat
open Go.RowKit
open _root_.Nat renaming le_refl→Ai
open _root_.List renaming getElem?_append_left→Bu,getElem?_append_right→Ca
open Value renaming slice→Aj
section
variable {e:List Fh}{w w':World}{base n c:Nat}{A B:Option Addr}{xs:List Value}{row:Option Nat}{l p s:List Int}{v:Value}
theorem Cy (hl:Bi w A n c l)(hA:A=none→c=0)(hb:n*8≤140737488355328):
 Calls Tryz.prog 16 #[.slice A n c] w fun e w'=>∃B d,e=.returned (.slice B n d)∧Av w' w.heap.size B n d l∧(B=none→d=0)∧Al w w':=by
 obtain⟨i0,hi,hz0,hz1,hz2⟩:=info_parts Bz;have hlen:=hl.len;have hnc:=hl.ncap;have hcm:=hl.nmax;have HB:=A4 hb;clear hb;unfold maxLen at hcm;have hq:∀w1:World,(binOp .eql 27 (.slice A n c) (.slice none 0 0)).run Tryz.prog w1=.ok (.bool A.isNone) w1:=fun w1=>Lib.run_eql_slice_nil w1 27 3 A n c 0 0 Tryz.underlying27
 rcases A with _|ad
 ·obtain rfl:=hA rfl
  obtain rfl:n=0:=by omega
  obtain rfl:l=[]:=List.eq_nil_of_length_eq_zero hlen;clear HB hi hz0 hz1 hz2;go_enter Tryz.func16,Tryz.ntmps16
  go_wp2_with fail
  go_ret
  exact⟨none,0,rfl,Av.nil _ _,fun _=>rfl,Al.refl _⟩
 ·have hn:=A4 hlen
  clear hlen hA;go_enter Tryz.func16,Tryz.ntmps16
  have hown0:Ay (w.alloc (.cells #[] 3)) w.heap.size 3 1 (some ⟨w.heap.size,0,none⟩) 0 0 []:=
   ⟨rfl,.inr ⟨w.heap.size,0,#[],rfl,Ai _,heap_alloc_new w _,Ai _,Nat.zero_le _,rfl,rfl⟩⟩
  have hx0:=Al.alloc w (.cells #[] 3);go_wp2_with (at_builtin;refine Fn rfl (.tmp 5) (.tmp 6) 27 rfl w w.heap.size 3 i0 (.int .i64 0) 1 8 Tryz.underlying27 hi hz0 hz1 hz2 rfl (by decide) _ 0 0 [] rfl hown0 _ n c _ rfl (hl.ext hx0) ?_ ?_ ?_ hx0 (Ai _) hx0.hsize ?_)
  ·exact hl.one
  ·have:=hl.nmax;unfold maxLen at this ⊢;omega
  ·have:=HB.out;omega
  ·intro A' c' w' hown' hgr hor he'
   clear hgr hown0 hx0;have hnil:A'=none→c'=0:=by
    exact I77
   clear hor;go_wp2_with fail
   go_ret
   exact⟨A',c',rfl,hown',hnil,he'⟩
def cutA (A:Option Addr)(c a:Nat):Option Addr:=if c=a then A else A.map (·.add a)
theorem Wk {c a:Nat}(hA:A=none→c=0)(h:cutA A c a=none):c-a=0:=by
 unfold cutA at h;split at h
 ·omega
 ·cases A with
  |none=>have:=hA rfl;omega
  |some ad=>cases h
theorem Bi.cutA (h:Bi w A n c l){a b:Nat}(h1:a≤b)(h2:b≤n):Bi w (cutA A c a) (b-a) (c-a) ((l.drop a).take (b-a)):=h.cut h1 h2
theorem Bi.tailA (h:Bi w A n c l){a:Nat}(h1:a≤n):Bi w (Go.Proofs.YtiahhfglhlgfiaaGreat.cutA A c a) (n-a) (c-a) (l.drop a):=by
 have:=h.cutA h1 (Ai n)
 rwa[List.take_of_length_le (by rw[List.length_drop,h.len];exact Ai _)]at this
theorem Wg:Tryz.prog.underlying 27=some (.slice (Tryz.prog.elem 27)):=by kernel_rfl
theorem Yx (w:World):(sizeOf (Tryz.prog.elem 27)).run Tryz.prog w=.ok 1 w:=by kernel_rfl
theorem To (A:Option Addr)(n c a b:Nat)(h1:a≤b)(h2:b≤c)(u:World):
 (Instr.slice 27 (.slice A n c) (some (.int .i64 (a:Int))) (some (.int .i64 (b:Int))) none).run Tryz.prog u=.ok (.slice (cutA A c a) (b-a) (c-a)) u:=by
 rw[run_slice_lh u 27 A n c Wg .i64 .i64 a b (by omega) (by omega) (by omega),Yx]
 simp[sliced,cutA,Result.andThen]
theorem Ra (A:Option Addr)(n c a:Nat)(h1:a≤n)(u:World):
 (Instr.slice 27 (.slice A n c) (some (.int .i64 (a:Int))) none none).run Tryz.prog u=.ok (.slice (cutA A c a) (n-a) (c-a)) u:=by
 rw[run_slice_l u 27 A n c Wg .i64 a (by omega) (by omega),Yx]
 simp[sliced,cutA,Result.andThen]
def Lw (p l:List Int):Bool:=if gI p 0=94 then V6 (p.drop 1) (l.take (p.length-1))&&decide (p.length-1≤l.length)else decide (Xb p l≠[])
def xX (p s:List Int)(e:Ending):Prop:=∃z x:Int,e=.returned (.tuple #[.int .i64 z,.int .i64 x])∧(x=if Xb p s=[]then 6 else 0)
theorem mI (p s:List Int)(i j:Nat):0≤gI (L6 p s i) j:=by
 unfold gI L6;rw[List.getElem?_map];cases ((List.range (i+1-p.length)).filter fun x=>decide (wR p s x))[j]? with
 |none=>simp
 |some x=>simp
theorem qY {n m c d:Nat}(hp:Bi w A n c p)(hs:Bi w B m d s)(hn:n≤4096)(h0:0<n)(hm:m≤4096):
 Calls Tryz.prog 103 #[.slice A n c,.slice B m d,.int .i64 0] w fun e w'=>xX p s e∧Al w w':=by
 have HA:=A4 (pI hp hs hn h0 hm);clear hp hs;go_enter Tryz.func103,Tryz.ntmps103
 go_wp2_with fail
 refine HA.out.mono ?_
 rintro e w1 ⟨C,q,y,rfl,hown,he1⟩;have hI:=A4 hown.ints;have hX:=A4 he1;have hql:=A4 hown.ints.len;have hq0:=hI.out.ncap;have hq1:=hI.out.nmax;unfold maxLen at hq1;clear HA hown he1;by_cases hz:0<q
 ·have HN:Hid (Xb p s≠[]):=A4 (fun e=>by have:=hql.out;rw[e]at this;simp at this;omega)
  obtain⟨ca,rfl,hc⟩:=hI.out.at_ hz;have c0:=hc 0 hz;have hpos:0≤gI (Xb p s) 0:=mI _ _ _ _;clear hc;rw[Dw]at c0;go_wp2_with fail
  go_loopw [23] (fun i wr=>i=.int .i64 0∧w1=wr) (fun _ _=>0)
  case atStart=>exact⟨rfl,rfl⟩
  case round=>
   obtain⟨rfl,rfl⟩:=hrel;go_wp2_with fail
   go_ret2
   exact⟨⟨_,_,rfl,by rw[if_neg HN.out]⟩,hX.out⟩
 ·obtain rfl:q=0:=by omega
  have HN:Hid (Xb p s=[]):=A4 (List.eq_nil_of_length_eq_zero hql.out);go_wp2_with fail
  go_loopw [23] (fun i wr=>i=.int .i64 0∧w1=wr) (fun _ _=>0)
  case atStart=>exact⟨rfl,rfl⟩
  case round=>
   obtain⟨rfl,rfl⟩:=hrel;go_wp2_with fail
   go_ret2
   exact⟨⟨_,_,rfl,by rw[if_pos HN.out]⟩,hX.out⟩
theorem aC {n m c d:Nat}(hp:Bi w A n c p)(hs:Bi w B m d s)(hn:n≤4096)(h0:0<n)(hm:m≤4096):
 Calls Tryz.prog 79 #[.slice A n c,.slice B m d] w fun e w'=>e=.returned (.bool (Lw p s))∧Al w w':=by
 have HP:=A4 hp;have HS:=A4 hs;have hpl:=A4 hp.len;have hsl:=A4 hs.len;have hq0:=hp.ncap;have hq1:=hp.nmax;have hr0:=hs.ncap;have hr1:=hs.nmax;unfold maxLen at hq1 hr1;obtain⟨ca,rfl,hc⟩:=hp.at_ h0;have c0:=hc 0 h0;rw[Dw]at c0;clear hc hp hs;by_cases hk:gI p 0=94
 ·have e1:(gI p 0==94)=true:=by simpa using hk
  have HK:=A4 hk;have hcut:=Ra (some ca) n c 1 (by omega)
  clear hk;have HT:=A4 (HP.out.tailA (a:=1) (by omega))
  have hc1:c=1∨c≠1:=by omega
  by_cases hle:n-1≤m
  ·have HF:Hid (Lw p s=V6 (p.drop 1) (s.take (n-1))):=A4 (by
    unfold Lw;rw[if_pos HK.out,hpl.out,hsl.out,decide_eq_true hle,Bool.and_true])
   have HQ:=A4 (J4 HT.out (HS.out.front hle));have hle2:((n-1:Nat):Int)≤(m:Int):=by omega
   clear HT hpl hsl;rcases hc1 with rfl|hc1
   ·obtain rfl:n=1:=by omega
    have HQ2:Hid (Calls Tryz.prog 9 #[.slice (some ca) 0 0,.slice B 0 d] w fun e w'=>e=.returned (.bool (V6 (p.drop 1) (s.take (1-1))))∧Al w w'):=HQ
    clear HQ hcut;go_enter Tryz.func79,Tryz.ntmps79
    go_wp2_with fail
    refine HQ2.out.mono ?_
    rintro e w1 ⟨rfl,he1⟩;clear HQ2;go_wp2_with fail
    go_ret
    refine⟨Fm (a:=V6 p.tail []) ?_,he1⟩
    rw[HF.out];simp
   ·have HQ2:Hid (Calls Tryz.prog 9 #[.slice (some ⟨ca.block,ca.off+1,none⟩) (n-1) (c-1),.slice B (n-1) d] w fun e w'=>e=.returned (.bool (V6 (p.drop 1) (s.take (n-1))))∧Al w w'):=A4 (by
     have:=HQ.out;unfold cutA at this;rw[if_neg hc1]at this;exact this)
    clear HQ hcut;go_enter Tryz.func79,Tryz.ntmps79
    go_wp2_with fail
    refine HQ2.out.mono ?_
    rintro e w1 ⟨rfl,he1⟩;clear HQ2;go_wp2_with fail
    go_ret
    refine⟨Fm (a:=V6 p.tail (List.take (n-1) s)) ?_,he1⟩
    rw[HF.out];simp
  ·have HF:Hid (Lw p s=false):=A4 (by
    unfold Lw;rw[if_pos HK.out,hpl.out,hsl.out,decide_eq_false hle,Bool.and_false])
   have hle2:m<n-1:=by omega
   clear hpl hsl hle HT hcut;rcases hc1 with rfl|hc1
   ·omega
   ·go_enter Tryz.func79,Tryz.ntmps79
    go_wp2_with fail
    go_ret
    refine⟨Fm (a:=false) ?_,Al.refl _⟩
    rw[HF.out]
 ·have e1:(gI p 0==94)=false:=by simpa using hk
  have HN:=A4 (qY HP.out HS.out hn h0 hm);have HF:Hid (Lw p s=decide (Xb p s≠[])):=A4 (by unfold Lw;rw[if_neg hk])
  clear hk hpl hsl;go_enter Tryz.func79,Tryz.ntmps79
  go_wp2_with fail
  refine HN.out.mono ?_
  rintro e w1 ⟨⟨z,x,rfl,hx⟩,he1⟩;have HX:=A4 hx;clear HN hx;go_wp2_with fail
  go_ret
  refine⟨Fm ?_,he1⟩
  rw[HF.out,HX.out];by_cases h:Xb p s=[]<;>simp[h]
def yV (a:Nat)(e:List Fh):Prop:=∀s∈e.head?,(a:Int)≤s.f
def Gs (w:World)(base:Nat)(row:Option Nat)(xs:List Value)(e:List Fh):Prop:=
 xs.length=e.length*3∧∀i,i<e.length→∃B m d,xs[i*3]? = some (.int .i64 (gE e i).f)∧xs[i*3+1]? = some (.int .i64 (gE e i).t)∧xs[i*3+2]? = some (.slice B m d)∧
  Av w base B m d (gE e i).x∧(B=none→d=0)∧((Aj B m d).ownBlock=none∨(Aj B m d).ownBlock≠row)
theorem Gs.edits (h:Gs w base row xs e):Yo w xs e:=
 ⟨h.1,fun i hi=>let ⟨B,m,d,h1,h2,h3,h4,h5,_⟩:=h.2 i hi;⟨B,m,d,h1,h2,h3,h4.ints,h5⟩⟩
theorem Gs.ext (h:Gs w base row xs e)(he:Al w w'):Gs w' base row xs e:=
 ⟨h.1,fun i hi=>let ⟨B,m,d,h1,h2,h3,h4,h5,h6⟩:=h.2 i hi;⟨B,m,d,h1,h2,h3,h4.ext he,h5,h6⟩⟩
theorem Gs.grown {row row':Option Nat}(h:Gs w base row xs e)(hg:w.grownBy w' row)(hr:row'=row∨∃g,w.heap.size≤g∧row'=some g):Gs w' base row' xs e:=
 ⟨h.1,fun i hi=>by
  obtain⟨B,m,d,h1,h2,h3,h4,h5,h6⟩:=h.2 i hi;refine⟨B,m,d,h1,h2,h3,Ay.kept h4 hg h6,h5,?_⟩
  rcases hr with rfl|⟨g,hgs,rfl⟩
  ·exact h6
  ·cases hb:(Aj B m d).ownBlock with
   |none=>exact .inl rfl
   |some g'=>
    have:=(Ay.blk h4 g' hb).2;exact .inr (fun e=>by injection e with e;omega)⟩
theorem Gs.nil (w:World)(base:Nat)(row:Option Nat):Gs w base row [] []:=⟨rfl,fun i hi=>absurd hi (by simp)⟩
def Dq (w:World)(base:Nat)(v:Value)(e:List Fh):Prop:=∃O k c xs row,v=.slice O k c∧Ay w base 241 3 O k c xs∧Gs w base row xs e
theorem Dq.nil (w:World)(base:Nat):Dq w base (.slice none 0 0) []:=⟨none,0,0,[],none,rfl,World.ownsRow_nil _ _ _ _,Gs.nil _ _ _⟩
theorem Dq.ext (h:Dq w base v e)(he:Al w w'):Dq w' base v e:=
 let ⟨O,k,c,xs,row,h1,h2,h3⟩:=h;⟨O,k,c,xs,row,h1,Ay.ext h2 he,h3.ext he⟩
theorem Dq.at_ (h:Dq w base v e):∃O k c,v=.slice O k c∧Hf w O k c e:=
 let ⟨O,k,c,xs,row,h1,h2,h3⟩:=h;⟨O,k,c,h1,xs,h2.rd,h3.edits⟩
theorem Dq.lower {base base':Nat}(h:Dq w base v e)(hb:base'≤base):Dq w base' v e:=
 let ⟨O,k,c,xs,row,h1,h2,h3⟩:=h;⟨O,k,c,xs,row,h1,Ay.lower h2 hb,h3.1,fun i hi=>let ⟨B,m,d,k1,k2,k3,k4,k5,k6⟩:=h3.2 i hi;⟨B,m,d,k1,k2,k3,Ay.lower k4 hb,k5,k6⟩⟩
theorem Dq.kept (h:Dq w base v e){g:Option Nat}(hg:w.grownBy w' g)(hb:∀k,g=some k→k<base):Dq w' base v e:=by
 obtain⟨O,k,c,xs,row,h1,h2,h3⟩:=h;have key:∀{e' z n' c':Nat} {A:Option Addr} {ys:List Value},Ay w base e' z A n' c' ys→Ay w' base e' z A n' c' ys:=fun ho=>Ay.kept ho hg (by
  cases hq:(Aj _ _ _).ownBlock with
  |none=>exact .inl rfl
  |some q=>exact .inr (fun e=>by have h4:=hb q e.symm;have h5:=(Ay.blk ho q hq).1;omega))
 exact⟨O,k,c,xs,row,h1,key h2,h3.1,fun i hi=>let ⟨B,m,d,k1,k2,k3,k4,k5,k6⟩:=h3.2 i hi;⟨B,m,d,k1,k2,k3,key k4,k5,k6⟩⟩
theorem sA {s:Fh}{i:Nat}(h:i<e.length):gE (e++[s]) i=gE e i:=by
 unfold gE;rw[Bu h]
theorem sB {s:Fh}:gE (e++[s]) e.length=s:=by
 unfold gE;simp
theorem Gs.snoc (h:Gs w base row xs e){s:Fh}{B:Option Addr}{m d:Nat}(ho:Av w base B m d s.x)(hn:B=none→d=0)
 (hr:(Aj B m d).ownBlock=none∨(Aj B m d).ownBlock≠row):Gs w base row (xs++[.int .i64 s.f,.int .i64 s.t,.slice B m d]) (e++[s]):=by
 obtain⟨h1,h2⟩:=h;refine⟨by simp;omega,fun i hi=>?_⟩
 rw[List.length_append]at hi;rcases Nat.lt_or_ge i e.length with hlt|hge
 ·obtain⟨B',m',d',k1,k2,k3,k4,k5,k6⟩:=h2 i hlt
  rw[sA hlt];refine⟨B',m',d',?_,?_,?_,k4,k5,k6⟩
  ·rw[Bu (by omega)];exact k1
  ·rw[Bu (by omega)];exact k2
  ·rw[Bu (by omega)];exact k3
 ·obtain rfl:i=e.length:=by simp at hi;omega
  rw[sB];refine⟨B,m,d,?_,?_,?_,ho,hn,hr⟩
  ·rw[Ca (by omega),h1,Nat.sub_self];rfl
  ·rw[Ca (by omega),h1,show e.length*3+1-e.length*3=1 by omega];rfl
  ·rw[Ca (by omega),h1,show e.length*3+2-e.length*3=2 by omega];rfl
end
