/-
  Part ZClone.
-/
import Derived.Test.YtkaefdmhlmlhbaaGreatZWordW
import Derived.Lib.SliceRun
import Derived.Deep.RegionHeld3
set_option maxRecDepth 100000
set_option maxHeartbeats 16000000
set_option linter.unusedVariables false
set_option linter.unusedSimpArgs false
namespace Go.Proofs.YtkaefdmhlmlhbaaGreat
open Go.RowKit
open _root_.Go.Proofs.Tryz
open _root_.Nat renaming le_refl→Aj
open _root_.List renaming getElem?_append_left→Bs,getElem?_append_right→Bx
open Value renaming slice→Ak
section
variable {e:List Gp}{w w':World}{base n c:Nat}{A B:Option Addr}{xs:List Value}{row:Option Nat}{l p s:List Int}{v:Value}
theorem Dj (hl:Bj w A n c l)(hA:A=none→c=0)(hb:n*8≤140737488355328):
 Calls prog 35 #[.slice A n c] w fun e w'=>∃B d,e=.returned (.slice B n d)∧Ba w' w.heap.size B n d l∧(B=none→d=0)∧An w w':=by
 obtain⟨i0,hi,bm,bz,az⟩:=info_parts Cd;have ab:=hl.len;have aw:=hl.ncap;have aq:=hl.nmax;have HB:=A6 hb;clear hb;unfold maxLen at aq;have hq:∀w1:World,(binOp .eql 25 (.slice A n c) (.slice none 0 0)).run prog w1=.ok (.bool A.isNone) w1:=fun w1=>Lib.run_eql_slice_nil w1 25 3 A n c 0 0 underlying25
 rcases A with _|ad
 ·obtain rfl:=hA rfl
  obtain rfl:n=0:=by omega
  obtain rfl:l=[]:=List.eq_nil_of_length_eq_zero ab;clear HB hi bm bz az;go_enter func35,ntmps35
  go_wp2_with fail
  go_ret
  exact⟨none,0,rfl,Ba.nil _ _,fun _=>rfl,An.refl _⟩
 ·have hn:=A6 ab
  clear ab hA;go_enter func35,ntmps35
  have dg:Bd (w.alloc (.cells #[] 3)) w.heap.size 3 1 (some ⟨w,0,none⟩) 0 0 []:=
   ⟨rfl,.inr ⟨w,0,#[],rfl,Aj _,heap_alloc_new w _,Aj _,Nat.zero_le _,rfl,rfl⟩⟩
  have am:=An.alloc w (.cells #[] 3);go_wp2_with (at_builtin;refine Eh rfl (.tmp 5) (.tmp 6) 25 rfl w w.heap.size 3 i0 (.int .i64 0) 1 8 underlying25 hi bm bz az rfl (by decide) _ 0 0 [] rfl dg _ n c _ rfl (hl.ext am) ?_ ?_ ?_ am (Aj _) am.hsize ?_)
  ·exact hl.one
  ·have:=hl.nmax;unfold maxLen at this ⊢;omega
  ·have:=HB.out;omega
  ·intro A' c' w' ce av cf fw
   clear av dg am;have qe:A'=none→c'=0:=by
    exact I84
   clear cf;go_wp2_with fail
   go_ret
   exact⟨A',c',rfl,ce,qe,fw⟩
def cutA (A:Option Addr)(c a:Nat):Option Addr:=if c=a then A else A.map (·.add a)
theorem Zw {c a:Nat}(hA:A=none→c=0)(h:cutA A c a=none):c-a=0:=by
 unfold cutA at h;split at h
 ·omega
 ·cases A with
  |none=>have:=hA rfl;omega
  |some ad=>cases h
theorem Bj.cutA (h:Bj w A n c l){a b:Nat}(h1:a≤b)(h2:b≤n):Bj w (cutA A c a) (b-a) (c-a) ((l.drop a).take (b-a)):=h.cut h1 h2
theorem Bj.tailA (h:Bj w A n c l){a:Nat}(h1:a≤n):Bj w (Go.Proofs.YtkaefdmhlmlhbaaGreat.cutA A c a) (n-a) (c-a) (l.drop a):=by
 have:=h.cutA h1 (Aj n)
 rwa[List.take_of_length_le (by rw[List.length_drop,h.len];exact Aj _)]at this
theorem Zs:prog.underlying 25=some (.slice (prog.elem 25)):=by kernel_rfl
theorem cM (w:World):(sizeOf (prog.elem 25)).run prog w=.ok 1 w:=by kernel_rfl
theorem Wj (A:Option Addr)(n c a b:Nat)(h1:a≤b)(h2:b≤c)(u:World):
 (Instr.slice 25 (.slice A n c) (some (.int .i64 (a:Int))) (some (.int .i64 (b:Int))) none).run prog u=.ok (.slice (cutA A c a) (b-a) (c-a)) u:=by
 rw[run_slice_lh u 25 A n c Zs .i64 .i64 a b (by omega) (by omega) (by omega),cM]
 simp[sliced,cutA,Result.andThen]
theorem Tw (A:Option Addr)(n c a:Nat)(h1:a≤n)(u:World):
 (Instr.slice 25 (.slice A n c) (some (.int .i64 (a:Int))) none none).run prog u=.ok (.slice (cutA A c a) (n-a) (c-a)) u:=by
 rw[run_slice_l u 25 A n c Zs .i64 a (by omega) (by omega),cM]
 simp[sliced,cutA,Result.andThen]
def P4 (p l:List Int):Bool:=if gI p 0=94 then Uv (p.drop 1) (l.take (p.length-1))&&decide (p.length-1≤l.length)else decide (aM p l≠[])
def J6s (p s:List Int)(e:Ending):Prop:=∃z x:Int,e=.returned (.tuple #[z,x])∧(x=if aM p s=[]then 6 else 0)
theorem tV (p s:List Int)(i j:Nat):0≤gI (Mw p s i) j:=by
 unfold gI Mw;rw[List.getElem?_map];cases ((List.range (i+1-p.length)).filter fun x=>decide (occ p s x))[j]? with
 |none=>simp
 |some x=>simp
theorem zH {n m c d:Nat}(hp:Bj w A n c p)(hs:Bj w B m d s)(hn:n≤4096)(h0:0<n)(hm:m≤4096):
 Calls prog 157 #[.slice A n c,.slice B m d,.int .i64 0] w fun e w'=>J6s p s e∧An w w':=by
 have HA:=A6 (xK hp hs hn h0 hm);clear hp hs;go_enter func157,ntmps157
 go_wp2_with fail
 refine HA.out.mono ?_
 rintro e w1 ⟨C,q,y,rfl,ac,aj⟩;have hI:=A6 ac.ints;have hX:=A6 aj;have dr:=A6 ac.ints.len;have hq0:=hI.out.ncap;have bu:=hI.out.nmax;unfold maxLen at bu;clear HA ac aj;by_cases hz:0<q
 ·have HN:Hid (aM p s≠[]):=A6 (fun e=>by have:=dr.out;rw[e]at this;simp at this;omega)
  obtain⟨ca,rfl,hc⟩:=hI.out.at_ hz;have c0:=hc 0 hz;have LZ:0≤gI (aM p s) 0:=tV _ _ _ _;clear hc;rw[Ei]at c0;go_wp2_with fail
  go_loopw [23] (fun i wr=>i=.int .i64 0∧w1=wr) (fun _ _=>0)
  case atStart=>exact⟨rfl,rfl⟩
  case round=>
   obtain⟨rfl,rfl⟩:=hrel;go_wp2_with fail
   go_ret2
   exact⟨⟨_,_,rfl,by rw[if_neg HN.out]⟩,hX.out⟩
 ·obtain rfl:q=0:=by omega
  have HN:Hid (aM p s=[]):=A6 (List.eq_nil_of_length_eq_zero dr.out);go_wp2_with fail
  go_loopw [23] (fun i wr=>i=.int .i64 0∧w1=wr) (fun _ _=>0)
  case atStart=>exact⟨rfl,rfl⟩
  case round=>
   obtain⟨rfl,rfl⟩:=hrel;go_wp2_with fail
   go_ret2
   exact⟨⟨_,_,rfl,by rw[if_pos HN.out]⟩,hX.out⟩
theorem eV {n m c d:Nat}(hp:Bj w A n c p)(hs:Bj w B m d s)(hn:n≤4096)(h0:0<n)(hm:m≤4096):
 Calls prog 126 #[.slice A n c,.slice B m d] w fun e w'=>e=.returned (.bool (P4 p s))∧An w w':=by
 have HP:=A6 hp;have HS:=A6 hs;have eb:=A6 hp.len;have ul:=A6 hs.len;have hq0:=hp.ncap;have bu:=hp.nmax;have mm:=hs.ncap;have CO:=hs.nmax;unfold maxLen at bu CO;obtain⟨ca,rfl,hc⟩:=hp.at_ h0;have c0:=hc 0 h0;rw[Ei]at c0;clear hc hp hs;by_cases hk:gI p 0=94
 ·have e1:(gI p 0==94)=true:=by simpa using hk
  have HK:=A6 hk;have hcut:=Tw (some ca) n c 1 (by omega)
  clear hk;have HT:=A6 (HP.out.tailA (a:=1) (by omega))
  have bh:c=1∨c≠1:=by omega
  by_cases dy:n-1≤m
  ·have HF:Hid (P4 p s=Uv (p.drop 1) (s.take (n-1))):=A6 (by
    unfold P4;rw[if_pos HK.out,eb.out,ul.out,decide_eq_true dy,Bool.and_true])
   have HQ:=A6 (Lk HT.out (HS.out.front dy));have WH:((n-1:Nat):Int)≤(m:Int):=by omega
   clear HT eb ul;rcases bh with rfl|bh
   ·obtain rfl:n=1:=by omega
    have NM:Hid (Calls prog 12 #[.slice (some ca) 0 0,.slice B 0 d] w fun e w'=>e=.returned (.bool (Uv (p.drop 1) (s.take (1-1))))∧An w w'):=HQ
    clear HQ hcut;go_enter func126,ntmps126
    go_wp2_with fail
    refine NM.out.mono ?_
    rintro e w1 ⟨rfl,aj⟩;clear NM;go_wp2_with fail
    go_ret
    refine⟨Gt (a:=Uv p.tail []) ?_,aj⟩
    rw[HF.out];simp
   ·have NM:Hid (Calls prog 12 #[.slice (some ⟨ca.block,ca.off+1,none⟩) (n-1) (c-1),.slice B (n-1) d] w fun e w'=>e=.returned (.bool (Uv (p.drop 1) (s.take (n-1))))∧An w w'):=A6 (by
     have:=HQ.out;unfold cutA at this;rw[if_neg bh]at this;exact this)
    clear HQ hcut;go_enter func126,ntmps126
    go_wp2_with fail
    refine NM.out.mono ?_
    rintro e w1 ⟨rfl,aj⟩;clear NM;go_wp2_with fail
    go_ret
    refine⟨Gt (a:=Uv p.tail (List.take (n-1) s)) ?_,aj⟩
    rw[HF.out];simp
  ·have HF:Hid (P4 p s=false):=A6 (by
    unfold P4;rw[if_pos HK.out,eb.out,ul.out,decide_eq_false dy,Bool.and_false])
   have WH:m<n-1:=by omega
   clear eb ul dy HT hcut;rcases bh with rfl|bh
   ·omega
   ·go_enter func126,ntmps126
    go_wp2_with fail
    go_ret
    refine⟨Gt (a:=false) ?_,An.refl _⟩
    rw[HF.out]
 ·have e1:(gI p 0==94)=false:=by simpa using hk
  have HN:=A6 (zH HP.out HS.out hn h0 hm);have HF:Hid (P4 p s=decide (aM p s≠[])):=A6 (by unfold P4;rw[if_neg hk])
  clear hk eb ul;go_enter func126,ntmps126
  go_wp2_with fail
  refine HN.out.mono ?_
  rintro e w1 ⟨⟨z,x,rfl,hx⟩,aj⟩;have HX:=A6 hx;clear HN hx;go_wp2_with fail
  go_ret
  refine⟨Gt ?_,aj⟩
  rw[HF.out,HX.out];by_cases h:aM p s=[]<;>simp[h]
def J7i (a:Nat)(e:List Gp):Prop:=∀s∈e.head?,(a:Int)≤s.f
def Ja (w:World)(base:Nat)(row:Option Nat)(xs:List Value)(e:List Gp):Prop:=
 xs.length=e.length*3∧∀i,i<e.length→∃B m d,xs[i*3]? = some (.int .i64 (gE e i).f)∧xs[i*3+1]? = some (.int .i64 (gE e i).t)∧xs[i*3+2]? = some (.slice B m d)∧
  Ba w base B m d (gE e i).x∧(B=none→d=0)∧((Ak B m d).ownBlock=none∨(Ak B m d).ownBlock≠row)
theorem Ja.edits (h:Ja w base row xs e):cD w xs e:=
 ⟨h.1,fun i hi=>let ⟨B,m,d,h1,h2,h3,h4,h5,_⟩:=h.2 i hi;⟨B,m,d,h1,h2,h3,h4.ints,h5⟩⟩
theorem Ja.ext (h:Ja w base row xs e)(he:An w w'):Ja w' base row xs e:=
 ⟨h.1,fun i hi=>let ⟨B,m,d,h1,h2,h3,h4,h5,h6⟩:=h.2 i hi;⟨B,m,d,h1,h2,h3,h4.ext he,h5,h6⟩⟩
theorem Ja.grown {row rh:Option Nat}(h:Ja w base row xs e)(hg:w.grownBy w' row)(hr:rh=row∨∃g,w.heap.size≤g∧rh=some g):Ja w' base rh xs e:=
 ⟨h.1,fun i hi=>by
  obtain⟨B,m,d,h1,h2,h3,h4,h5,h6⟩:=h.2 i hi;refine⟨B,m,d,h1,h2,h3,Bd.kept h4 hg h6,h5,?_⟩
  rcases hr with rfl|⟨g,QR,rfl⟩
  ·exact h6
  ·cases hb:(Ak B m d).ownBlock with
   |none=>exact .inl rfl
   |some g'=>
    have:=(Bd.blk h4 g' hb).2;exact .inr (fun e=>by injection e with e;omega)⟩
theorem Ja.nil (w:World)(base:Nat)(row:Option Nat):Ja w base row [] []:=⟨rfl,fun i hi=>absurd hi (by simp)⟩
def Es (w:World)(base:Nat)(v:Value)(e:List Gp):Prop:=∃O k c xs row,v=.slice O k c∧Bd w base 268 3 O k c xs∧Ja w base row xs e
theorem Es.nil (w:World)(base:Nat):Es w base (.slice none 0 0) []:=⟨none,0,0,[],none,rfl,World.ownsRow_nil _ _ _ _,Ja.nil _ _ _⟩
theorem Es.ext (h:Es w base v e)(he:An w w'):Es w' base v e:=
 let ⟨O,k,c,xs,row,h1,h2,h3⟩:=h;⟨O,k,c,xs,row,h1,Bd.ext h2 he,h3.ext he⟩
theorem Es.at_ (h:Es w base v e):∃O k c,v=.slice O k c∧Js w O k c e:=
 let ⟨O,k,c,xs,row,h1,h2,h3⟩:=h;⟨O,k,c,h1,xs,h2.rd,h3.edits⟩
theorem Es.lower {base iq:Nat}(h:Es w base v e)(hb:iq≤base):Es w iq v e:=
 let ⟨O,k,c,xs,row,h1,h2,h3⟩:=h;⟨O,k,c,xs,row,h1,Bd.lower h2 hb,h3.1,fun i hi=>let ⟨B,m,d,k1,k2,k3,k4,k5,k6⟩:=h3.2 i hi;⟨B,m,d,k1,k2,k3,Bd.lower k4 hb,k5,k6⟩⟩
theorem Es.kept (h:Es w base v e){g:Option Nat}(hg:w.grownBy w' g)(hb:∀k,g=some k→k<base):Es w' base v e:=by
 obtain⟨O,k,c,xs,row,h1,h2,h3⟩:=h;have key:∀{e' z n' c':Nat} {A:Option Addr} {ys:List Value},Bd w base e' z A n' c' ys→Bd w' base e' z A n' c' ys:=fun ho=>Bd.kept ho hg (by
  cases hq:(Ak _ _ _).ownBlock with
  |none=>exact .inl rfl
  |some q=>exact .inr (fun e=>by have h4:=hb q e.symm;have h5:=(Bd.blk ho q hq).1;omega))
 exact⟨O,k,c,xs,row,h1,key h2,h3.1,fun i hi=>let ⟨B,m,d,k1,k2,k3,k4,k5,k6⟩:=h3.2 i hi;⟨B,m,d,k1,k2,k3,key k4,k5,k6⟩⟩
theorem J0k {s:Gp}{i:Nat}(h:i<e.length):gE (e++[s]) i=gE e i:=by
 unfold gE;rw[Bs h]
theorem J0l {s:Gp}:gE (e++[s]) e.length=s:=by
 unfold gE;simp
theorem Ja.snoc (h:Ja w base row xs e){s:Gp}{B:Option Addr}{m d:Nat}(ho:Ba w base B m d s.x)(hn:B=none→d=0)
 (hr:(Ak B m d).ownBlock=none∨(Ak B m d).ownBlock≠row):Ja w base row (xs++[.int .i64 s.f,.int .i64 s.t,.slice B m d]) (e++[s]):=by
 obtain⟨h1,h2⟩:=h;refine⟨by simp;omega,fun i hi=>?_⟩
 rw[List.length_append]at hi;rcases Nat.lt_or_ge i e.length with ae|ku
 ·obtain⟨B',m',d',k1,k2,k3,k4,k5,k6⟩:=h2 i ae
  rw[J0k ae];refine⟨B',m',d',?_,?_,?_,k4,k5,k6⟩
  ·rw[Bs (by omega)];exact k1
  ·rw[Bs (by omega)];exact k2
  ·rw[Bs (by omega)];exact k3
 ·obtain rfl:i=e.length:=by simp at hi;omega
  rw[J0l];refine⟨B,m,d,?_,?_,?_,ho,hn,hr⟩
  ·rw[Bx (by omega),h1,Nat.sub_self];rfl
  ·rw[Bx (by omega),h1,show e.length*3+1-e.length*3=1 by omega];rfl
  ·rw[Bx (by omega),h1,show e.length*3+2-e.length*3=2 by omega];rfl
end
