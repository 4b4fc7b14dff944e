/-
  Part ZRinsL.
-/
import Derived.Test.YtiahhfglhlgfiaaGreatZRinsX
import Derived.Deep.RegionHeld3
import Derived.Deep.DeepCutAuto
import Derived.Deep.CutRange
set_option maxRecDepth 100000
set_option maxHeartbeats 16000000
set_option linter.unusedVariables false
set_option linter.unusedSimpArgs false
namespace Go.Proofs.YtiahhfglhlgfiaaGreat.RS
open _root_.List renaming length_drop→Ct
open Go.RowKit
def Pushed (w w':World)(s g:Nat):Prop:=∃(x:Sl) (p i:Nat) (u:Value),w'=(w.setCell ⟨s,p,none⟩ (.slice x.a x.n x.c)).drew.setCell ⟨g,i,none⟩ u
theorem Pushed.ext {w0 w w':World}{s g:Nat}(h:Pushed w w' s g)(he:Al w0 w)(hs:w0.heap.size≤s)(hg:w0.heap.size≤g):Al w0 w':=by
 obtain⟨x,p,i,u,rfl⟩:=h;exact((he.setCell hs _).to_drew).setCell hg _
theorem Pushed.own {w w':World}{s g base e z n c:Nat}{A:Option Addr}{xs:List Value}(h:Pushed w w' s g)(ho:Ay w base e z A n c xs)(hs:s<base)(hg:g<base):Ay w' base e z A n c xs:=by
 obtain⟨x,p,i,u,rfl⟩:=h;exact Ay.setCell (Ay.ext (Ay.setCell ho (by exact hs) _) (Al.drew _)) (by exact hg) _
theorem Pushed.size {w w':World}{s g:Nat}(h:Pushed w w' s g):w'.heap.size=w.heap.size:=by
 obtain⟨x,p,i,u,rfl⟩:=h;simp
theorem RingAt.grown {w w':World}{g s n f z:Nat}{ss:List Sl}(h:RingAt w g s n f z ss){row:Option Nat}(hb:w.grownBy w' row)(h1:some g≠row)(h2:some s≠row):RingAt w' g s n f z ss:=
 ⟨h.1.grown hb h1,h.2.1.grown hb h2,h.2.2⟩
def Held (w:World)(g s room:Nat)(l:List Sl)(j:Nat):Prop:=
 ∃f ss,RingAt w g s room f (min j room) ss∧slotsOk l ss room j∧(0<room→f=(j-min j room)%room)
theorem Held.ext {w w':World}{g s room:Nat}{l:List Sl}{j:Nat}(h:Held w g s room l j)(he:Al w w'):Held w' g s room l j:=by
 obtain⟨f,ss,h1,h2,h3⟩:=h;exact⟨f,ss,h1.ext he,h2,h3⟩
theorem Held.grown {w w':World}{g s room:Nat}{l:List Sl}{j:Nat}(h:Held w g s room l j){row:Option Nat}(hb:w.grownBy w' row)(h1:some g≠row)(h2:some s≠row):Held w' g s room l j:=by
 obtain⟨f,ss,k1,k2,k3⟩:=h;exact⟨f,ss,k1.grown hb h1 h2,k2,k3⟩
def pushR (l:List Sl)(room j:Nat):Value×Bool:=
 if room=0 then(.slice (gS l j).a (gS l j).n (gS l j).c,true)else if j<room then(.slice none 0 0,false)else(.slice (gS l (j-room)).a (gS l (j-room)).n (gS l (j-room)).c,true)
theorem push_held {w:World}{g s room:Nat}{l:List Sl}{j:Nat}(h:Held w g s room l j)(hr:room≤65536):
 Calls Tryz.prog 84 #[.pointer (some ⟨g,0,none⟩),.slice (gS l j).a (gS l j).n (gS l j).c] w fun e w'=>e=.returned (.tuple #[(pushR l room j).1,.bool (pushR l room j).2])∧Held w' g s room l (j+1)∧(w=w'∨Pushed w w' s g):=by
 obtain⟨f,ss,h1,h2,h3⟩:=h;unfold pushR;by_cases h0:room=0
 ·subst h0
  rw[if_pos rfl];have e1:min j 0=0:=by omega
  rw[e1]at h1;refine(push_zero (gS l j) h1).mono ?_
  rintro e w' ⟨rfl,rfl⟩;refine⟨rfl,⟨f,ss,?_,⟨h2.1,fun k _ hk=>?_⟩,fun h=>absurd h (by omega)⟩,.inl rfl⟩
  ·have e2:min (j+1) 0=0:=by omega
   rw[e2];exact h1
  ·omega
 ·rw[if_neg h0]
  have hp:0<room:=by omega
  have hf:=h3 hp;have hfl:f<room:=by rw[hf];exact Nat.mod_lt _ hp
  by_cases hj:j<room
  ·rw[if_pos hj]
   have e1:min j room=j:=by omega
   have e2:min (j+1) room=j+1:=by omega
   rw[e1]at h1 hf;have hf0:f=0:=by rw[hf,Nat.sub_self];exact Nat.zero_mod _
   subst hf0;refine(push_room (gS l j) h1 h2.1 hj hfl hr).mono ?_
   rintro e w' ⟨rfl,k1,p,i,u,k2⟩;exact⟨rfl,⟨0,ss.set ((0+j)%room) (gS l j),by rw[e2];exact k1,by rw[Nat.zero_add];exact slots_push hp h2,fun _=>by rw[e2,Nat.sub_self];exact(Nat.zero_mod _).symm⟩,.inr ⟨_,p,i,u,k2⟩⟩
  ·rw[if_neg hj]
   have e1:min j room=room:=by omega
   have e2:min (j+1) room=room:=by omega
   rw[e1]at h1 hf;refine(push_full (gS l j) h1 h2.1 hfl hr).mono ?_
   rintro e w' ⟨rfl,k1,p,i,u,k2⟩;have hold:gS ss f=gS l (j-room):=by
    rw[hf];exact h2.2 _ (by omega) (by omega)
   have hfj:f=j%room:=by
    rw[hf]
    conv=>rhs;rw[show j=j-room+room by omega,Nat.add_mod_right]
   exact⟨by rw[hold],⟨(f+1)%room,ss.set f (gS l j),by rw[e2];exact k1,by
    have:=slots_push hp h2;rw[←hfj]at this;exact this,fun _=>by
    rw[e2,hf,Nat.mod_add_mod]
    congr 1
    omega⟩,.inr ⟨_,p,i,u,k2⟩⟩
theorem held_list {room f:Nat}{l ss:List Sl}(h2:slotsOk l ss room l.length)(h3:0<room→f=(l.length-min l.length room)%room):
 ringL ss room f (min l.length room)=l.drop (l.length-min l.length room):=by
 rcases Nat.eq_zero_or_pos room with h0|h0
 ·subst h0
  simp[ringL]
 ·refine List.ext_getElem (by rw[ringL_len,Ct];omega) fun k hk1 hk2=>?_
  rw[ringL_len]at hk1;simp only[ringL,List.getElem_map,List.getElem_range,List.getElem_drop];rw[h3 h0,slots_at h0 h2 hk1];rw[Ct]at hk2;simp[gS,show l.length-min l.length room+k<l.length by omega]
end Go.Proofs.YtiahhfglhlgfiaaGreat.RS
