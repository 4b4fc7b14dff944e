/-
  Part ZRopeW.
-/
import Derived.Test.YtiahhfglhlgfiaaGreatZBase
import Derived.Deep.RegionHeld3
import Derived.StillTailTactics
import Derived.IntWalk
set_option maxRecDepth 100000
set_option maxHeartbeats 16000000
set_option linter.unusedVariables false
set_option linter.unusedSimpArgs false
namespace Go.Proofs.YtiahhfglhlgfiaaGreat
open Go.RowKit
open _root_.List renaming getElem?_cons_succ→Af,getElem?_cons_zero→Ae,getElem?_toArray→Ag,length_drop→Ct,length_take→Cj
open _root_.Nat renaming le_refl→Ai
section
variable {w:World}{A a:Option Addr}{l:List Int}{n c:Nat}
def Bp (w:World):Option Addr→Tr→Prop
 |a,.nil=>a=none
 |a,.node l c r=>∃g la ra,a=some ⟨g,0,none⟩∧An w g 125 #[.pointer la,.pointer ra,.int .i64 c,.int .i64 (Tr.node l c r).sz,.int .i64 (Tr.node l c r).ht]∧Bp w la l∧Bp w ra r
theorem Bp.ext {w w':World}(he:Al w w'):∀{t:Tr} {a:Option Addr},Bp w a t→Bp w' a t
 |.nil,a,h=>h
 |.node l c r,a,h=>by
  obtain⟨g,la,ra,h1,h2,h3,h4⟩:=h;exact⟨g,la,ra,h1,h2.ext he,Bp.ext he h3,Bp.ext he h4⟩
theorem Xi {t:Tr}(h:Bp w a t):Calls Tryz.prog 46 #[.pointer a] w fun e w'=>e=.returned (.int .i64 t.sz)∧w=w':=by
 cases t with
 |nil=>
  obtain rfl:=h;exact I83
 |node l c r=>
  obtain⟨g,la,ra,rfl,hb,_,_⟩:=h;have c3:=hb.cell 3;simp only[Ag,Ae,Af]at c3;clear hb;generalize (Tr.node l c r).sz=s at*;exact I83
theorem eF {t:Tr}(h:Bp w a t):Calls Tryz.prog 125 #[.pointer a] w fun e w'=>e=.returned (.int .i64 t.ht)∧w=w':=by
 cases t with
 |nil=>
  obtain rfl:=h;exact I82
 |node l c r=>
  obtain⟨g,la,ra,rfl,hb,_,_⟩:=h;have c3:=hb.cell 4;simp only[Ag,Ae,Af]at c3;clear hb;generalize (Tr.node l c r).ht=s at*;exact I82
theorem rH {l r:Tr}{lv rv:Option Addr}{c:Int}(hl:Bp w lv l)(hr:Bp w rv r)(hz:l.sz+r.sz≤1000000):
 Calls Tryz.prog 116 #[.pointer lv,.int .i64 c,.pointer rv] w fun e w'=>∃v,e=.returned (.pointer v)∧Bp w' v (.node l c r)∧Al w w':=by
 have H1:=A4 (Xi hl);have H2:=A4 (Xi hr);have H3:=A4 (eF hl);have H4:=A4 (eF hr);have hl1:=Tr.ht_le l;have hr1:=Tr.ht_le r;have HL:=A4 hl;have HR:=A4 hr;have E1:Hid ((l.sz:Int)+1+r.sz=((Tr.node l c r).sz:Int)):=A4 (by show _=((l.sz+1+r.sz:Nat):Int);omega)
 have E2:Hid ((1:Int)+max (l.ht:Int) r.ht=((Tr.node l c r).ht:Int)):=A4 (by show _=((1+max l.ht r.ht:Nat):Int);omega)
 clear hl hr;generalize l.sz=s1 at*;generalize r.sz=s2 at*;generalize l.ht=t1 at*;generalize r.ht=t2 at*;go_enter Tryz.func116,Tryz.ntmps116
 go_wp2_with fail
 refine H1.out.mono ?_
 rintro e w1 ⟨rfl,rfl⟩;go_wp2_with fail
 refine H2.out.mono ?_
 rintro e w1 ⟨rfl,rfl⟩;go_wp2_with fail
 refine H3.out.mono ?_
 rintro e w1 ⟨rfl,rfl⟩;go_wp2_with fail
 refine H4.out.mono ?_
 rintro e w1 ⟨rfl,rfl⟩;go_wp2_with fail
 all_goals
  go_ret
  refine⟨_,rfl,⟨w.heap.size,lv,rv,rfl,?_,Bp.ext (Al.alloc _ _) HL.out,Bp.ext (Al.alloc _ _) HR.out⟩,Al.alloc _ _⟩
  rw[←E1.out,←E2.out]
  first
   |(rw[show max (t1:Int) (t2:Int)=(t2:Int)by omega];exact An.new w _ _)
   |(rw[show max (t1:Int) (t2:Int)=(t1:Int)by omega];exact An.new w _ _)
def hB:Nat→Nat→Nat
 |0,_=>0
 |f+1,n=>if n=0 then 0 else 1+max (hB f (n/2)) (hB f (n-n/2-1))
theorem Qj:∀(f:Nat) (l:List Int),(Tr.buildF f l).ht=hB f l.length
 |0,l=>rfl
 |f+1,l=>by
  unfold Tr.buildF hB;by_cases h:l.length=0
  ·rw[if_pos h,if_pos h];rfl
  ·rw[if_neg h,if_neg h]
   show 1+max (Tr.buildF f _).ht (Tr.buildF f _).ht=_
   rw[Qj f,Qj f,Cj,Ct,Nat.min_eq_left (by omega),Nat.sub_add_eq]
theorem Xo:∀(f n:Nat),n+1≤f→hB f n≤hB f (n+1)∧hB f (n+1)≤hB f n+1
 |0,n,h=>by omega
 |f+1,n,h=>by
  by_cases h0:n=0
  ·subst h0
   unfold hB;simp;cases f<;>simp[hB]
  ·unfold hB
   rw[if_neg h0,if_neg (by omega)]
   rcases Nat.mod_two_eq_zero_or_one n with hm|hm
   ·-- n = 2k
    obtain⟨k,rfl⟩:∃k,n=2*k:=⟨n/2,by omega⟩
    rw[show 2*k/2=k by omega,show(2*k+1)/2=k by omega,show 2*k+1-k-1=k by omega,show 2*k-k-1=k-1 by omega]
    have:=Xo f (k-1) (by omega)
    rw[show k-1+1=k by omega]at this
    omega
   ·obtain⟨k,rfl⟩:∃k,n=2*k+1:=⟨n/2,by omega⟩
    rw[show(2*k+1)/2=k by omega,show(2*k+1+1)/2=k+1 by omega,show 2*k+1+1-(k+1)-1=k by omega,show 2*k+1-k-1=k by omega]
    have:=Xo f k (by omega)
    omega
theorem Ki:∀(f:Nat) (l:List Int),l.length≤f→(Tr.buildF f l).bal∧(Tr.buildF f l).toL=l
 |0,l,h=>by
  have:l=[]:=List.eq_nil_of_length_eq_zero (by omega)
  subst this;exact⟨trivial,rfl⟩
 |f+1,l,h=>by
  unfold Tr.buildF;by_cases h0:l.length=0
  ·rw[if_pos h0]
   have:l=[]:=List.eq_nil_of_length_eq_zero h0;subst this;exact⟨trivial,rfl⟩
  ·rw[if_neg h0]
   have h1:(l.take (l.length/2)).length=l.length/2:=by rw[Cj];omega
   have h2:(l.drop (l.length/2+1)).length=l.length-l.length/2-1:=by rw[Ct];omega
   obtain⟨a1,a2⟩:=Ki f (l.take (l.length/2)) (by omega)
   obtain⟨b1,b2⟩:=Ki f (l.drop (l.length/2+1)) (by omega)
   have hl:=Qj f (l.take (l.length/2));have hr:=Qj f (l.drop (l.length/2+1));rw[h1]at hl;rw[h2]at hr;refine⟨⟨a1,b1,?_,?_⟩,?_⟩
   ·exact I34
   ·exact I34
   ·rw[Tr.toL_node,a2,b2]
    have hg:gI l (l.length/2)=l[l.length/2]'(by omega):=by simp[gI,show l.length/2<l.length by omega]
    rw[hg,←List.drop_eq_getElem_cons (by omega),List.take_append_drop]
def lH (f:Nat):Prop:=∀(l:List Int) (A:Option Addr) (n c:Nat) (w:World),Bi w A n c l→n≤f→n≤4096→
 Calls Tryz.prog 102 #[.slice A n c] w fun e w'=>∃v,e=.returned (.pointer v)∧Bp w' v (Tr.buildF f l)∧Al w w'
theorem dR {f:Nat}(IH:Hid (lH f))(hl:Bi w A n c l)(hf:n≤f+1)(hn:n≤4096)(h0:0<n):
 Calls Tryz.prog 102 #[.slice A n c] w fun e w'=>∃v,e=.returned (.pointer v)∧Bp w' v (Tr.node (Tr.buildF f (l.take (n/2))) (gI l (n/2)) (Tr.buildF f (l.drop (n/2+1))))∧Al w w':=by
 have hnc:=hl.ncap;have hcm:=hl.nmax;have HLEN:=A4 hl.len;unfold maxLen at hcm;have z1:((n:Int)==0)=false:=by simp;omega
 obtain⟨ad,rfl,hc⟩:=hl.at_ h0;obtain⟨h,hh⟩:∃h,h=n/2:=⟨_,rfl⟩;rw[←hh];have c1:=hc h (by omega)
 obtain⟨h1,hh1⟩:∃h1,h1=h+1:=⟨_,rfl⟩;rw[←hh1];have HF:=A4 (hl.front (k:=h) (by omega))
 have hw1:IntKind.i64.wrap ((h:Int)+1)=(h1:Int):=by rw[IntWalk.i64_in _ (by omega)];omega
 have HFB:Hid (h≤f∧n-h1≤f∧h≤4096∧n-h1≤4096):=A4 (by omega)
 have e1:(n:Int)/2=(h:Int):=by omega
 have i1:(h:Int)<(n:Int):=by omega
 have i2:(0:Int)≤(h:Int):=by omega
 have i3:(h1:Int)≤(n:Int):=by omega
 have i4:(0:Int)≤(h1:Int):=by omega
 have i5:(h:Int)≤(c:Int):=by omega
 have i6:¬c=0:=by omega
 have HSZ:Hid ((Tr.buildF f (l.take h)).sz+(Tr.buildF f (l.drop h1)).sz≤1000000):=A4 (by
  have e1:=congrArg List.length (Ki f (l.take h) (by rw[Cj];omega)).2
  have e2:=congrArg List.length (Ki f (l.drop h1) (by rw[Ct,HLEN.out];omega)).2
  rw[Tr.len,Cj]at e1;rw[Tr.len,Ct,HLEN.out]at e2;omega)
 have hxd:=Al.drew w;by_cases hcc:c=h1
 ·have N0:=trivial;exact yB
 ·have N1:=trivial;exact yB
theorem An.setNe {g t:Nat}{cs:Array Value}(h:An w g t cs){p:Addr}(hp:p.block≠g)(u:Value):An (w.setCell p u) g t cs:=by
 exact I93
theorem Bp.slot {w:World}{q T:Nat}{x u:Value}(hT:T≠125)(hb:An w q T #[x]):∀{t:Tr} {a:Option Addr},Bp w a t→Bp (w.setCell ⟨q,0,none⟩ u) a t
 |.nil,a,h=>h
 |.node l c r,a,h=>by
  obtain⟨g,la,ra,h1,h2,h3,h4⟩:=h;refine⟨g,la,ra,h1,h2.setNe ?_ u,Bp.slot hT hb h3,Bp.slot hT hb h4⟩
  intro e;have e:q=g:=e;subst e;unfold An at hb h2;rw[hb]at h2;injection h2 with h2;injection h2 with _ h2;exact hT h2
theorem tG {w W:World}{q T:Nat}{x0:Value}(hb:An W q T #[x0])(he:Al w W)(hq:w.heap.size≤q):
 (∀x:Value,(W.setCell ⟨q,0,none⟩ x).cell? ⟨q,0,none⟩=some x)∧(∀x:Value,Al w (W.setCell ⟨q,0,none⟩ x))∧(∀x:Value,An (W.setCell ⟨q,0,none⟩ x) q T #[x]):=
 ⟨fun x=>by have:=(hb.set_ 0 x).cell 0;simpa using this,fun x=>he.setCell hq _,fun x=>by simpa using hb.set_ 0 x⟩
theorem Zh:∀f:Nat,lH f
 |0=>by
  intro l A n c w hl hf hn;obtain rfl:n=0:=by omega
  exact I44
 |f+1=>by
  intro l A n c w hl hf hn;rcases Nat.eq_zero_or_pos n with h0|h0
  ·subst h0
   exact I44
  ·have hlen:=hl.len
   have e:Tr.buildF (f+1) l=Tr.node (Tr.buildF f (l.take (n/2))) (gI l (n/2)) (Tr.buildF f (l.drop (n/2+1))):=by
    show(if l.length=0 then _ else _)=_
    rw[if_neg (by omega),hlen]
   rw[e];exact dR (A4 (Zh f)) hl hf hn h0
theorem mV (hl:Bi w A n c l)(hn:n≤4096):
 Calls Tryz.prog 77 #[.slice A n c] w fun e w'=>∃v,e=.returned (.tuple #[.agg #[.pointer v],.int .i64 0])∧Bp w' v (Tr.build l)∧Al w w':=by
 have hx:=Al.alloc w (.cells #[.pointer none] 57);have hb:=An.new w 57 #[.pointer none];have HB:=A4 (Zh n l A n c _ (hl.ext hx) (Ai _) hn);have HE:Hid (Tr.buildF n l=Tr.build l):=A4 (by unfold Tr.build;rw[hl.len])
 have hcm:=hl.nmax;have hnc:=hl.ncap;unfold maxLen at hcm;clear hl;go_enter Tryz.func77,Tryz.ntmps77
 go_wp2_with fail
 refine HB.out.mono ?_
 rintro e w1 ⟨v,rfl,hv,he⟩;have hq:=hb.ext he;have f0:=hq.frozen 0;have c0:=hq.cell 0;simp only[Ag,Ae,Af]at c0;have HQ:=A4 hq;have HV:=A4 hv;clear HB hb hq hv;go_wp2_with fail
 obtain⟨c6,hx6,_⟩:=tG HQ.out (hx.trans he) (Ai _);refine bodyPost_ret (by simp[results,Tryz.results77,go_sem,c6];try rfl) rfl ?_
 refine⟨v,rfl,?_,hx6 _⟩
 rw[←HE.out];exact Bp.slot (by decide) HQ.out HV.out
theorem mW (hnc:n≤c)(hcm:c≤maxLen)(hn:4096<n):
 Calls Tryz.prog 77 #[.slice A n c] w fun e w'=>e=.returned (.tuple #[.agg #[.pointer none],.int .i64 2])∧Al w w':=by
 have hx:=Al.alloc w (.cells #[.pointer none] 57);have hb:=An.new w 57 #[.pointer none];have f0:=hb.frozen 0;have c0:=hb.cell 0;simp only[Ag,Ae,Af]at c0;have HQ:=A4 hb;unfold maxLen at hcm;clear hb;go_enter Tryz.func77,Tryz.ntmps77
 go_wp2_with fail
 obtain⟨c6,hx6,_⟩:=tG HQ.out hx (Ai _);refine bodyPost_ret (by simp[results,Tryz.results77,go_sem,c6];try rfl) rfl ?_
 exact⟨rfl,by first|exact hx6 _|exact hx⟩
def pX (l:List Int):Int:=if l.length≤4096 then 0 else 2
def M6 (l:List Int):Tr:=if l.length≤4096 then Tr.build l else .nil
theorem vC (hl:Bi w A n c l):
 Calls Tryz.prog 77 #[.slice A n c] w fun e w'=>∃v,e=.returned (.tuple #[.agg #[.pointer v],.int .i64 (pX l)])∧Bp w' v (M6 l)∧Al w w':=by
 have hlen:=hl.len;unfold M6 pX;by_cases h:n≤4096
 ·rw[if_pos (by omega),if_pos (by omega)]
  exact mV hl h
 ·rw[if_neg (by omega),if_neg (by omega)]
  exact(mW hl.ncap hl.nmax (by omega)).mono fun e w' ⟨h1,h2⟩=>⟨none,h1,rfl,h2⟩
theorem Xd {t:Tr}(h:Bp w a t):Calls Tryz.prog 30 #[.agg #[.pointer a]] w fun e w'=>e=.returned (.int .i64 t.sz)∧Al w w':=by
 have hx:=Al.alloc w (.cells #[.pointer a] 57);have HS:=A4 (Xi (Bp.ext hx h));clear h;go_enter Tryz.func30,Tryz.ntmps30
 go_wp2_with fail
 refine HS.out.mono ?_
 rintro e w1 ⟨rfl,rfl⟩;go_wp2_with fail
 go_ret
 exact⟨rfl,hx⟩
end
