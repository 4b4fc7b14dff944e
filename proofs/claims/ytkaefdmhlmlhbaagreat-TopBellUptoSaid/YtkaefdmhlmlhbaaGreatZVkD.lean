/-
  Part of the proof: ZVkD.
-/
import Derived.Test.YtkaefdmhlmlhbaaGreatZVkA
set_option maxRecDepth 100000
set_option maxHeartbeats 16000000
set_option linter.unusedVariables false
set_option linter.unusedSimpArgs false
namespace Go.Proofs.YtkaefdmhlmlhbaaGreat
open Go.RowKit
open _root_.List renaming eq_nil_of_length_eq_zero→Z3y
def lnF (s:PS):List Int×Int×(Nat→List Int)×List (List Int×Int)×List (List Int)×Int:=(s.tx,s.at_,s.rl,s.past,s.hi.lines,s.hi.at_)
def BlR (s s':PS):Prop:=s'.told=s.told∨(∃x,s'.told=s.told++[x]∧x.1≠1)∨(lnF s'=lnF s∧s'.told=s.told++[(1,[])])
theorem Z4a (s:PS):BlR s (Ey s):=.inr (.inr ⟨rfl,rfl⟩)
theorem Z5r (s:PS)(k:Int):BlR s (Dm s k):=by
 unfold Dm;split
 ·exact .inl rfl
 ·cases Ht s.mode s.tx s.at_.toNat k with
  |none=>exact Z4a s
  |some r=>exact .inl rfl
theorem Z6n (s:PS)(c:Cm)(d:Dn):BlR s (Mg s c d):=by
 unfold Mg Pe G4;split<;>(split<;>exact .inl rfl)
theorem Z5q (s:PS)(c:Cm):BlR s (doS s c):=by
 unfold doS;cases Mh s.tx s.rl s.at_ s.fk s.fa c with
 |none=>exact Z4a s
 |some d=>exact Z6n s c d
theorem Z5e (s:PS)(pat:List Int)(a b:Bool):BlR s (Fn s pat a b):=by
 unfold Fn;split
 ·exact .inl rfl
 ·exact Z4a s
theorem Z5b (s:PS)(c:Cm)(h:c.verb≠46):BlR s (F3 s c):=by
 unfold F3;split
 ·exact Z5q s c
 split
 ·unfold Ga;split
  ·exact Z4a s
  ·exact .inl rfl
 split
 ·unfold J1;cases Tj s.tx s.first
  ·exact .inl rfl
  ·exact Z4a s
 split
 ·unfold upS;split
  ·exact .inl rfl
  ·exact Z4a s
 split
 ·unfold Mm;split
  ·exact .inl rfl
  ·exact Z4a s
 split
 ·unfold Mj;split
  ·exact .inl rfl
  ·exact Z4a s
 split
 ·exact Z5e s _ _ _
 split
 ·exact .inl rfl
 ·exact Z5q s c
theorem Z4w {p:Pt}{k:Int}(hk:k≠46)(hw:p.wait≠46):(Co p k).c.verb≠46:=by
 unfold Co G6 Dw Mv Cm.zero
 repeat' split
 all_goals (first|exact hk|exact hw|(show(0:Int)≠46;decide))
theorem Z6m {s:PS}{k:Int}(h:Fl s.part=true)(hk:k≠46):BlR s (Em s k):=by
 unfold Em;split
 ·exact .inr (.inl ⟨(3,[]),rfl,by decide⟩)
 split
 ·unfold Le
  split
  ·exact Z5e { s with mode:=0 } _ _ _
  split
  ·exact .inl rfl
  split
  ·split<;>exact .inl rfl
  split
  ·exact Z4a s
  ·exact .inl rfl
 split
 ·exact .inr (.inl ⟨(2,s.tx),rfl,by show(2:Int)≠1;decide⟩)
 split
 ·split
  ·exact .inr (.inl ⟨(4,[]),rfl,by decide⟩)
  ·exact Z4a s
 split
 ·exact Z5r s k
 ·have hw:s.part.wait≠46:=by
   obtain⟨pt,hpt⟩:∃x,x=s.part:=⟨_,rfl⟩;rw[←hpt]at h ⊢;obtain⟨f,r,o,s2,wt⟩:=pt;obtain⟨h1,h2,h3,h4,h5,hr,ho2,hwt⟩:=Ge h;rcases J4v hwt with rfl|rfl|rfl|rfl|rfl|rfl|rfl|rfl|rfl<;>simp
  unfold Sj;split
  ·exact Z5b { s with part:=(Co s.part k).p } _ (Z4w hk hw)
  split
  ·exact Z4a { s with part:=(Co s.part k).p }
  ·exact .inl rfl
theorem Z5y {s:PS}{t:ByteArray}{k:Int}(h:Fl s.part=true)(ho:s.over=false)(hk:k≠46)(hm:Da s.pend (Ao t)=⟨[],[k]⟩)(hl:(Cw s t).told.length=1)(hb:(gV (Cw s t).told 0).1=1):lnF (Cw s t)=lnF s:=by
 unfold Cw at hl hb ⊢;rw[hm]at hl hb ⊢;have e:Cc (En s []) [k]=Na (Em (En s []) k):=by
  show Fz (En s []) k=_
  unfold Fz;rw[if_neg (by show ¬s.over=true;rw[ho];decide)]
 simp only[e]at hl hb ⊢;have hl:(Em (En s []) k).told.length=1:=hl;have hb:(gV (Em (En s []) k).told 0).1=1:=hb;rcases Z6m (s:=En s []) (k:=k) h hk with h1|⟨x,h1,h2⟩|⟨h1,_⟩
 ·rw[h1]at hl;exact absurd hl (show ¬(0:Nat)=1 by decide)
 ·rw[h1]at hb;exact absurd hb h2
 ·exact h1
theorem Z6h:∀(f:Nat) {r:List Nat},(∀x∈r,x<256)→Z4d f r=0→r.length≤f→∀out,∃o,Jr r ⟨[],out⟩=⟨[],o⟩:=by
 intro f
 induction f with
 |zero=>intro r _ _ hl out;obtain rfl:r=[]:=Z3y (by omega);exact⟨out,rfl⟩
 |succ f ih=>
  intro r hb h hl out;by_cases h0:r.length=0
  ·obtain rfl:r=[]:=Z3y h0
   exact⟨out,rfl⟩
  ·by_cases hg:H8 r=0
   ·obtain⟨_,h2,_⟩:=Z4t (f:=f) h0 hg
    rw[h2]at h;obtain⟨g1,g2,m,g3⟩:=Z5p hb hg;have hp:=Yq (Hb r);have hd0:∀c:Nat,r=Mu c++m→r.drop (Mu c).length=m:=fun c e=>by rw[e,List.drop_left]
    have hd:r.drop (Ka r)=m:=by rw[g2];exact hd0 _ g3
    have e1:∀c:Nat,Jm (c:Int)→r=Mu c++m→Jr r ⟨[],out⟩=Jr m ⟨[],out++[(c:Int)]⟩:=fun c hc e=>by rw[e,U7,Z4q hc]
    rw[hd]at h;have hlm:m.length≤f:=by have:=congrArg List.length g3;rw[List.length_append]at this;omega
    obtain⟨o,ho⟩:=ih (fun x hx=>hb x (by rw[g3];exact List.mem_append_right _ hx)) h hlm (out++[(Hb r:Int)])
    exact⟨o,by rw[e1 _ g1 g3];exact ho⟩
   ·obtain⟨_,h2,_⟩:=Z4s (f:=f) h0 hg
    rw[h2]at h;exact absurd h hg
theorem Z5x {s:PS}{b:ByteArray}(hp:s.pend=[])(h:Z4d b.size (Ao b)=0):(Cw s b).pend=[]:=by
 obtain⟨o,ho⟩:=Z6h b.size (Te b) h (by rw[Fi];exact Nat.le_refl _) []
 unfold Cw;rw[Pv]
 show(Da s.pend (Ao b)).ah=[]
 unfold Da;rw[hp,ho]
theorem Z6c {c:Nat}(h:Jm c):Da [] (Ao (Fx (Mu c)))=⟨[],[(c:Int)]⟩:=by
 unfold Da;rw[Ly (Z5f (by have:=h;unfold Jm at this;omega)),Z4q h]
 rfl
