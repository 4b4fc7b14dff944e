/-
  Part ZRopeW.
-/
import Derived.Test.YtkaefdmhlmlhbaaGreatZBase
import Derived.Deep.RegionHeld3
import Derived.StillTailTactics
import Derived.IntWalk
set_option maxRecDepth 100000
set_option maxHeartbeats 16000000
set_option linter.unusedVariables false
set_option linter.unusedSimpArgs false
namespace Go.Proofs.YtkaefdmhlmlhbaaGreat
open Go.RowKit
open _root_.Go.Proofs.Tryz
open _root_.List renaming eq_nil_of_length_eq_zero→Cz,getElem?_cons_succ→Ag,getElem?_cons_zero→Af,getElem?_toArray→Ah,length_drop→Dd,length_take→Cp
open _root_.Nat renaming le_refl→Aj
section
variable {w:World}{A a:Option Addr}{l:List Int}{n c:Nat}
def By (w:World):Option Addr→Tr→Prop
 |a,.nil=>a=none
 |a,.node l c r=>∃g la ra,a=some ⟨g,0,none⟩∧Aq w g 154 #[.pointer la,.pointer ra,.int .i64 c,.int .i64 (Tr.node l c r).sz,.int .i64 (Tr.node l c r).ht]∧By w la l∧By w ra r
theorem By.ext {w w':World}(he:An w w'):∀{t:Tr} {a:Option Addr},By w a t→By w' a t
 |.nil,a,h=>h
 |.node l c r,a,h=>by
  obtain⟨g,la,ra,h1,h2,h3,h4⟩:=h;exact⟨g,la,ra,h1,h2.ext he,By.ext he h3,By.ext he h4⟩
theorem aS {t:Tr}(h:By w a t):Calls prog 83 #[.pointer a] w fun e w'=>e=.returned (.int .i64 t.sz)∧w=w':=by
 cases t with
 |nil=>
  obtain rfl:=h;exact I91
 |node l c r=>
  obtain⟨g,la,ra,rfl,hb,_,_⟩:=h;have c3:=hb.cell 3;simp only[Ah,Af,Ag]at c3;clear hb;generalize (Tr.node l c r).sz=s at*;exact I91
theorem kO {t:Tr}(h:By w a t):Calls prog 183 #[.pointer a] w fun e w'=>e=.returned (.int .i64 t.ht)∧w=w':=by
 cases t with
 |nil=>
  obtain rfl:=h;exact I90
 |node l c r=>
  obtain⟨g,la,ra,rfl,hb,_,_⟩:=h;have c3:=hb.cell 4;simp only[Ah,Af,Ag]at c3;clear hb;generalize (Tr.node l c r).ht=s at*;exact I90
theorem zQ {l r:Tr}{lv rv:Option Addr}{c:Int}(hl:By w lv l)(hr:By w rv r)(hz:l.sz+r.sz≤1000000):
 Calls prog 177 #[.pointer lv,.int .i64 c,.pointer rv] w fun e w'=>∃v,e=.returned (.pointer v)∧By w' v (.node l c r)∧An w w':=by
 have H1:=A6 (aS hl);have H2:=A6 (aS hr);have H3:=A6 (kO hl);have H4:=A6 (kO hr);have gq:=Tr.ht_le l;have CO:=Tr.ht_le r;have HL:=A6 hl;have HR:=A6 hr;have E1:Hid ((l.sz:Int)+1+r.sz=((Tr.node l c r).sz:Int)):=A6 (by show _=((l.sz+1+r.sz:Nat):Int);omega)
 have E2:Hid ((1:Int)+max (l.ht:Int) r.ht=((Tr.node l c r).ht:Int)):=A6 (by show _=((1+max l.ht r.ht:Nat):Int);omega)
 clear hl hr;generalize l.sz=s1 at*;generalize r.sz=s2 at*;generalize l.ht=t1 at*;generalize r.ht=t2 at*;go_enter func177,ntmps177
 go_wp2_with fail
 refine H1.out.mono ?_
 rintro e w1 ⟨rfl,rfl⟩;go_wp2_with fail
 refine H2.out.mono ?_
 rintro e w1 ⟨rfl,rfl⟩;go_wp2_with fail
 refine H3.out.mono ?_
 rintro e w1 ⟨rfl,rfl⟩;go_wp2_with fail
 refine H4.out.mono ?_
 rintro e w1 ⟨rfl,rfl⟩;go_wp2_with fail
 all_goals
  go_ret
  refine⟨_,rfl,⟨w,lv,rv,rfl,?_,By.ext (An.alloc _ _) HL.out,By.ext (An.alloc _ _) HR.out⟩,An.alloc _ _⟩
  rw[←E1.out,←E2.out]
  first
   |(rw[show max (t1:Int) (t2:Int)=(t2:Int)by omega];exact Aq.new w _ _)
   |(rw[show max (t1:Int) (t2:Int)=(t1:Int)by omega];exact Aq.new w _ _)
def hB:Nat→Nat→Nat
 |0,_=>0
 |f+1,n=>if n=0 then 0 else 1+max (hB f (n/2)) (hB f (n-n/2-1))
theorem T5:∀(f:Nat) (l:List Int),(Tr.buildF f l).ht=hB f l.length
 |0,l=>rfl
 |f+1,l=>by
  unfold Tr.buildF hB;by_cases h:l.length=0
  ·rw[if_pos h,if_pos h];rfl
  ·rw[if_neg h,if_neg h]
   show 1+max (Tr.buildF f _).ht (Tr.buildF f _).ht=_
   rw[T5 f,T5 f,Cp,Dd,Nat.min_eq_left (by omega),Nat.sub_add_eq]
theorem aY:∀(f n:Nat),n+1≤f→hB f n≤hB f (n+1)∧hB f (n+1)≤hB f n+1
 |0,n,h=>by omega
 |f+1,n,h=>by
  by_cases h0:n=0
  ·subst h0
   unfold hB;simp;cases f<;>simp[hB]
  ·unfold hB
   rw[if_neg h0,if_neg (by omega)]
   rcases Nat.mod_two_eq_zero_or_one n with hm|hm
   ·-- n = 2k
    obtain⟨k,rfl⟩:∃k,n=2*k:=⟨n/2,by omega⟩
    rw[show 2*k/2=k by omega,show(2*k+1)/2=k by omega,show 2*k+1-k-1=k by omega,show 2*k-k-1=k-1 by omega]
    have:=aY f (k-1) (by omega)
    rw[show k-1+1=k by omega]at this
    omega
   ·obtain⟨k,rfl⟩:∃k,n=2*k+1:=⟨n/2,by omega⟩
    rw[show(2*k+1)/2=k by omega,show(2*k+1+1)/2=k+1 by omega,show 2*k+1+1-(k+1)-1=k by omega,show 2*k+1-k-1=k by omega]
    have:=aY f k (by omega)
    omega
theorem M8:∀(f:Nat) (l:List Int),l.length≤f→(Tr.buildF f l).bal∧(Tr.buildF f l).toL=l
 |0,l,h=>by
  have:l=[]:=Cz (by omega)
  subst this;exact⟨trivial,rfl⟩
 |f+1,l,h=>by
  unfold Tr.buildF;by_cases h0:l.length=0
  ·rw[if_pos h0]
   have:l=[]:=Cz h0;subst this;exact⟨trivial,rfl⟩
  ·rw[if_neg h0]
   have h1:(l.take (l.length/2)).length=l.length/2:=by rw[Cp];omega
   have h2:(l.drop (l.length/2+1)).length=l.length-l.length/2-1:=by rw[Dd];omega
   obtain⟨a1,a2⟩:=M8 f (l.take (l.length/2)) (by omega)
   obtain⟨b1,b2⟩:=M8 f (l.drop (l.length/2+1)) (by omega)
   have hl:=T5 f (l.take (l.length/2));have hr:=T5 f (l.drop (l.length/2+1));rw[h1]at hl;rw[h2]at hr;refine⟨⟨a1,b1,?_,?_⟩,?_⟩
   ·exact I36
   ·exact I36
   ·rw[Tr.toL_node,a2,b2]
    have hg:gI l (l.length/2)=l[l.length/2]'(by omega):=by simp[gI,show l.length/2<l.length by omega]
    rw[hg,←List.drop_eq_getElem_cons (by omega),List.take_append_drop]
def sH (f:Nat):Prop:=∀(l:List Int) (A:Option Addr) (n c:Nat) (w:World),Bj w A n c l→n≤f→n≤4096→
 Calls prog 156 #[.slice A n c] w fun e w'=>∃v,e=.returned (.pointer v)∧By w' v (Tr.buildF f l)∧An w w'
theorem jX {f:Nat}(IH:Hid (sH f))(hl:Bj w A n c l)(hf:n≤f+1)(hn:n≤4096)(h0:0<n):
 Calls prog 156 #[.slice A n c] w fun e w'=>∃v,e=.returned (.pointer v)∧By w' v (Tr.node (Tr.buildF f (l.take (n/2))) (gI l (n/2)) (Tr.buildF f (l.drop (n/2+1))))∧An w w':=by
 have aw:=hl.ncap;have aq:=hl.nmax;have ov:=A6 hl.len;unfold maxLen at aq;have z1:((n:Int)==0)=false:=by simp;omega
 obtain⟨ad,rfl,hc⟩:=hl.at_ h0;obtain⟨h,hh⟩:∃h,h=n/2:=⟨_,rfl⟩;rw[←hh];have c1:=hc h (by omega)
 obtain⟨h1,hh1⟩:∃h1,h1=h+1:=⟨_,rfl⟩;rw[←hh1];have HF:=A6 (hl.front (k:=h) (by omega))
 have mg:IntKind.i64.wrap ((h:Int)+1)=(h1:Int):=by rw[IntWalk.i64_in _ (by omega)];omega
 have DK:Hid (h≤f∧n-h1≤f∧h≤4096∧n-h1≤4096):=A6 (by omega)
 have e1:(n:Int)/2=(h:Int):=by omega
 have i1:(h:Int)<(n:Int):=by omega
 have i2:(0:Int)≤(h:Int):=by omega
 have i3:(h1:Int)≤(n:Int):=by omega
 have i4:(0:Int)≤(h1:Int):=by omega
 have i5:(h:Int)≤(c:Int):=by omega
 have i6:¬c=0:=by omega
 have zu:Hid ((Tr.buildF f (l.take h)).sz+(Tr.buildF f (l.drop h1)).sz≤1000000):=A6 (by
  have e1:=congrArg List.length (M8 f (l.take h) (by rw[Cp];omega)).2
  have e2:=congrArg List.length (M8 f (l.drop h1) (by rw[Dd,ov.out];omega)).2
  rw[Tr.len,Cp]at e1;rw[Tr.len,Dd,ov.out]at e2;omega)
 have fj:=An.drew w;by_cases sw:c=h1
 ·have N0:=trivial;exact K21
 ·have N1:=trivial;exact K21
theorem Aq.setNe {g t:Nat}{cs:Array Value}(h:Aq w g t cs){p:Addr}(hp:p.block≠g)(u:Value):Aq (w.setCell p u) g t cs:=by
 exact I103
theorem By.slot {w:World}{q T:Nat}{x u:Value}(hT:T≠154)(hb:Aq w q T #[x]):∀{t:Tr} {a:Option Addr},By w a t→By (w.setCell ⟨q,0,none⟩ u) a t
 |.nil,a,h=>h
 |.node l c r,a,h=>by
  obtain⟨g,la,ra,h1,h2,h3,h4⟩:=h;refine⟨g,la,ra,h1,h2.setNe ?_ u,By.slot hT hb h3,By.slot hT hb h4⟩
  intro e;have e:q=g:=e;subst e;unfold Aq at hb h2;rw[hb]at h2;injection h2 with h2;injection h2 with _ h2;exact hT h2
theorem J1y {w W:World}{q T:Nat}{x0:Value}(hb:Aq W q T #[x0])(he:An w W)(hq:w.heap.size≤q):
 (∀x:Value,(W.setCell ⟨q,0,none⟩ x).cell? ⟨q,0,none⟩=some x)∧(∀x:Value,An w (W.setCell ⟨q,0,none⟩ x))∧(∀x:Value,Aq (W.setCell ⟨q,0,none⟩ x) q T #[x]):=
 ⟨fun x=>by have:=(hb.set_ 0 x).cell 0;simpa using this,fun x=>he.setCell hq _,fun x=>by simpa using hb.set_ 0 x⟩
theorem dQ:∀f:Nat,sH f
 |0=>by
  intro l A n c w hl hf hn;obtain rfl:n=0:=by omega
  exact I47
 |f+1=>by
  intro l A n c w hl hf hn;rcases Nat.eq_zero_or_pos n with h0|h0
  ·subst h0
   exact I47
  ·have ab:=hl.len
   have e:Tr.buildF (f+1) l=Tr.node (Tr.buildF f (l.take (n/2))) (gI l (n/2)) (Tr.buildF f (l.drop (n/2+1))):=by
    show(if l.length=0 then _ else _)=_
    rw[if_neg (by omega),ab]
   rw[e];exact jX (A6 (dQ f)) hl hf hn h0
theorem uI (hl:Bj w A n c l)(hn:n≤4096):
 Calls prog 124 #[.slice A n c] w fun e w'=>∃v,e=.returned (.tuple #[.agg #[.pointer v],(0:Int)])∧By w' v (Tr.build l)∧An w w':=by
 have hx:=An.alloc w (.cells #[.pointer none] 90);have hb:=Aq.new w 90 #[.pointer none];have HB:=A6 (dQ n l A n c _ (hl.ext hx) (Aj _) hn);have HE:Hid (Tr.buildF n l=Tr.build l):=A6 (by unfold Tr.build;rw[hl.len])
 have aq:=hl.nmax;have aw:=hl.ncap;unfold maxLen at aq;clear hl;go_enter func124,ntmps124
 go_wp2_with fail
 refine HB.out.mono ?_
 rintro e w1 ⟨v,rfl,hv,he⟩;have hq:=hb.ext he;have f0:=hq.frozen 0;have c0:=hq.cell 0;simp only[Ah,Af,Ag]at c0;have HQ:=A6 hq;have HV:=A6 hv;clear HB hb hq hv;go_wp2_with fail
 obtain⟨c6,JT,_⟩:=J1y HQ.out (hx.trans he) (Aj _);refine bodyPost_ret (by simp[results,results124,go_sem,c6];try rfl) rfl ?_
 refine⟨v,rfl,?_,JT _⟩
 rw[←HE.out];exact By.slot (by decide) HQ.out HV.out
theorem uJ (aw:n≤c)(aq:c≤maxLen)(hn:4096<n):
 Calls prog 124 #[.slice A n c] w fun e w'=>e=.returned (.tuple #[.agg #[.pointer none],(2:Int)])∧An w w':=by
 have hx:=An.alloc w (.cells #[.pointer none] 90);have hb:=Aq.new w 90 #[.pointer none];have f0:=hb.frozen 0;have c0:=hb.cell 0;simp only[Ah,Af,Ag]at c0;have HQ:=A6 hb;unfold maxLen at aq;clear hb;go_enter func124,ntmps124
 go_wp2_with fail
 obtain⟨c6,JT,_⟩:=J1y HQ.out hx (Aj _);refine bodyPost_ret (by simp[results,results124,go_sem,c6];try rfl) rfl ?_
 exact⟨rfl,by first|exact JT _|exact hx⟩
def xZ (l:List Int):Int:=if l.length≤4096 then 0 else 2
def Pb (l:List Int):Tr:=if l.length≤4096 then Tr.build l else .nil
theorem J3y (hl:Bj w A n c l):
 Calls prog 124 #[.slice A n c] w fun e w'=>∃v,e=.returned (.tuple #[.agg #[.pointer v],.int .i64 (xZ l)])∧By w' v (Pb l)∧An w w':=by
 have ab:=hl.len;unfold Pb xZ;by_cases h:n≤4096
 ·rw[if_pos (by omega),if_pos (by omega)]
  exact uI hl h
 ·rw[if_neg (by omega),if_neg (by omega)]
  exact(uJ hl.ncap hl.nmax (by omega)).mono fun e w' ⟨h1,h2⟩=>⟨none,h1,rfl,h2⟩
theorem aN {t:Tr}(h:By w a t):Calls prog 62 #[.agg #[.pointer a]] w fun e w'=>e=.returned (.int .i64 t.sz)∧An w w':=by
 have hx:=An.alloc w (.cells #[.pointer a] 90);have HS:=A6 (aS (By.ext hx h));clear h;go_enter func62,ntmps62
 go_wp2_with fail
 refine HS.out.mono ?_
 rintro e w1 ⟨rfl,rfl⟩;go_wp2_with fail
 go_ret
 exact⟨rfl,hx⟩
end
