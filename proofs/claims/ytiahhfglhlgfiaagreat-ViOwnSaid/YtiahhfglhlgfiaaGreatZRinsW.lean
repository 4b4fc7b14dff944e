/-
  Part ZRinsW.
-/
import Derived.Test.YtiahhfglhlgfiaaGreatZRinsM
import Derived.IntWalk
set_option maxRecDepth 100000
set_option maxHeartbeats 16000000
set_option linter.unusedVariables false
set_option linter.unusedSimpArgs false
namespace Go.Proofs.YtiahhfglhlgfiaaGreat.RS
open _root_.And renaming intro→Be
open _root_.List renaming getElem?_cons_succ→Af,getElem?_cons_zero→Ae,getElem?_toArray→Ag,replicate→Ar
open Go.RowKit
def RingAt (w:World)(g s n f z:Nat)(ss:List Sl):Prop:=
 An w g 176 #[.slice (some ⟨s,0,none⟩) n n,.int .i64 f,.int .i64 z]∧An w s 27 (ss.map Sl.v).toArray∧s≠g
theorem RingAt.ext {w w':World}{g s n f z:Nat}{ss:List Sl}(h:RingAt w g s n f z ss)(he:Al w w'):RingAt w' g s n f z ss:=⟨h.1.ext he,h.2.1.ext he,h.2.2⟩
theorem RingAt.drewN {w:World}{g s n f z:Nat}{ss:List Sl}(h:RingAt w g s n f z ss)(k:Nat):RingAt (w.drewN k) g s n f z ss:=h
theorem _root_.Go.Proofs.YtiahhfglhlgfiaaGreat.An.setOther {w:World}{g t:Nat}{cs:Array Value}(h:An w g t cs){p:Addr}(hp:p.block≠g)(u:Value):An (w.setCell p u) g t cs:=by
 exact I93
theorem made_strs (n:Nat):madeCells (Value.slice none 0 0).cells n=((Ar n Sl.zero).map Sl.v).toArray:=by
 apply Array.ext
 ·simp[size_madeCells]
 ·intro i h1 h2
  simp[madeCells,Value.cells,Nat.mod_one,Sl.v,Sl.zero]
theorem ringNew_ok (most:Int)(room:Nat)(hr:(65536<most∧room=65536)∨(most≤65536∧0<most∧(room:Int)=most)∨(most≤0∧room=0))(w:World):
 Calls Tryz.prog 83 #[.int .i64 most] w fun e w'=>e=.returned (.pointer (some ⟨w.heap.size+1,0,none⟩))∧RingAt w' (w.heap.size+1) w.heap.size room 0 0 (Ar room Sl.zero)∧Al w w':=by
 obtain⟨i0,hi,hz0,hz1,hz2⟩:=info_parts Lp;have hmk:∀(x:Int),x=(room:Int)→∀u:World,(Instr.makeSlice 41 (.int .i64 x) (.int .i64 x)).run Tryz.prog u=
  .ok (.slice (some ⟨u.heap.size,0,none⟩) room room) (u.alloc (.cells (madeCells #[.slice none 0 0] room) 27)):=fun x hx u=>by
  subst hx;have h:=run_make (P:=Tryz.prog) u 41 27 i0 (.slice none 0 0) Tryz.underlying41 hi hz0 .i64 .i64 (room:Int) (room:Int) (by omega) (Int.le_refl _) (by rw[hz2];omega) (by omega)
  simpa[hz1,Value.cells]using h
 have HEnd:Hid (∀x y:World,x=w.alloc (.cells (madeCells #[.slice none 0 0] room) 27)→y=x.alloc (.cells #[.slice (some ⟨w.heap.size,0,none⟩) room room,.int .i64 0,.int .i64 0] 176)→RingAt y (w.heap.size+1) w.heap.size room 0 0 (Ar room Sl.zero)∧Al w y):=A4 (by
  rintro x y rfl rfl;refine⟨⟨?_,?_,by omega⟩,(Al.alloc _ _).to_alloc _⟩
  ·have:=An.new (w.alloc (.cells (madeCells #[.slice none 0 0] room) 27)) 176 #[.slice (some ⟨w.heap.size,0,none⟩) room room,.int .i64 0,.int .i64 0]
   simpa using this
  ·have h1:=(An.new w 27 (madeCells #[.slice none 0 0] room)).ext (Al.alloc _ (.cells #[.slice (some ⟨w.heap.size,0,none⟩) room room,.int .i64 0,.int .i64 0] 176))
   have h2:=made_strs room;simp only[Value.cells]at h2;rw[h2]at h1 ⊢;exact h1)
 clear hi hz0 hz1 hz2;rcases hr with⟨h1,h2⟩|⟨h1,h2,h3⟩|⟨h1,h2⟩
 ·have hm:=hmk 65536 (by omega)
  clear hmk h2;exact I31
 ·have hm:=hmk most (by omega)
  clear hmk h3;exact I31
 ·have hm:=hmk 0 (by omega)
  clear hmk h2;exact I31
theorem push_zero (x:Sl){g s f z:Nat}{ss:List Sl}{w:World}(h:RingAt w g s 0 f z ss):
 Calls Tryz.prog 84 #[.pointer (some ⟨g,0,none⟩),.slice x.a x.n x.c] w fun e w'=>e=.returned (.tuple #[.slice x.a x.n x.c,.bool true])∧w=w':=by
 have k0:=h.1.cell 0;simp only[Ag,Ae,Af]at k0;clear h;go_enter Tryz.func84,Tryz.ntmps84
 go_wp2_with fail
 go_ret2
 exact⟨rfl,rfl⟩
theorem push_room (x:Sl){g s n f z:Nat}{ss:List Sl}{w:World}(h:RingAt w g s n f z ss)(hl:ss.length=n)(hz:z<n)(hf:f<n)(hn:n≤65536):
 Calls Tryz.prog 84 #[.pointer (some ⟨g,0,none⟩),.slice x.a x.n x.c] w fun e w'=>e=.returned (.tuple #[.slice none 0 0,.bool false])∧RingAt w' g s n f (z+1) (ss.set ((f+z)%n) x)∧∃p i u,w'=(w.setCell ⟨s,p,none⟩ (.slice x.a x.n x.c)).drew.setCell ⟨g,i,none⟩ u:=by
 have k0:=h.1.cell 0;have k1:=h.1.cell 1;have k2:=h.1.cell 2;have f2:=h.1.frozen 2;simp only[Ag,Ae,Af]at k0 k1 k2;obtain⟨m,hm⟩:∃m,m=f+z:=⟨_,rfl⟩;obtain⟨p,hp⟩:∃p,p=m%n:=⟨_,rfl⟩;have hpn:p<n:=by rw[hp];exact Nat.mod_lt _ (by omega)
 have hw1:IntKind.i64.wrap ((f:Int)+(z:Int))=(m:Int):=by rw[IntWalk.i64_in _ (by omega)];omega
 have hw2:Int.tmod (m:Int) (n:Int)=(p:Int):=by rw[hp];rfl
 have hps:p<(ss.map Sl.v).length:=by simpa[hl]using hpn
 have cp:w.cell? ⟨s,p,none⟩=some (.slice (gS ss p).a (gS ss p).n (gS ss p).c):=by
  exact I121
 have fp:=h.2.1.frozen p;have HM:=A4 (Be hm hp);have HR:=A4 h;have HL:=A4 hl;clear h hl hm hp hps;go_enter Tryz.func84,Tryz.ntmps84
 go_wp2_with fail
 go_region
 have h6:RingAt (w.setCell ⟨s,p,none⟩ (.slice x.a x.n x.c)).drew g s n f z (ss.set p x):=by
  obtain⟨h1,h2,h3⟩:=HR.out;refine⟨(h1.setOther (by exact h3) _).drewN 1,?_,h3⟩
  have:=h2.set_ p (.slice x.a x.n x.c);rw[List.map_set];have h4:An (w.setCell ⟨s,p,none⟩ (.slice x.a x.n x.c)) s 27 ((ss.map Sl.v).set p (.slice x.a x.n x.c)).toArray:=by simpa using this
  exact h4
 have hsz:Hid (∃q,(w.setCell ⟨s,p,none⟩ (.slice x.a x.n x.c)).drew=(w.setCell ⟨s,q,none⟩ (.slice x.a x.n x.c)).drew):=A4 ⟨_,rfl⟩;have HR6:=A4 h6
 revert HR6 hsz
 clear h6;generalize (w.setCell ⟨s,p,none⟩ (.slice x.a x.n x.c)).drew=w1;intro hsz HR6;clear k0 k1 k2 f2 cp fp;have k0:=HR6.out.1.cell 0;have k1:=HR6.out.1.cell 1;have k2:=HR6.out.1.cell 2;have f2:=HR6.out.1.frozen 2;simp only[Ag,Ae,Af]at k0 k1 k2;go_wp2_with fail
 go_ret2
 refine⟨rfl,?_,?_⟩
 ·rw[←HM.out.1,←HM.out.2]
  obtain⟨h1,h2,h3⟩:=HR6.out;refine⟨?_,h2.setOther (by exact fun e=>h3 e.symm) _,h3⟩
  simpa using h1.set_ 2 (.int .i64 ((z+1:Nat):Int))
 ·exact I124
theorem push_full (x:Sl){g s n f:Nat}{ss:List Sl}{w:World}(h:RingAt w g s n f n ss)(hl:ss.length=n)(hf:f<n)(hn:n≤65536):
 Calls Tryz.prog 84 #[.pointer (some ⟨g,0,none⟩),.slice x.a x.n x.c] w fun e w'=>e=.returned (.tuple #[.slice (gS ss f).a (gS ss f).n (gS ss f).c,.bool true])∧RingAt w' g s n ((f+1)%n) n (ss.set f x)∧∃p i u,w'=(w.setCell ⟨s,p,none⟩ (.slice x.a x.n x.c)).drew.setCell ⟨g,i,none⟩ u:=by
 have k0:=h.1.cell 0;have k1:=h.1.cell 1;have k2:=h.1.cell 2;simp only[Ag,Ae,Af]at k0 k1 k2;have cp:w.cell? ⟨s,f,none⟩=some (.slice (gS ss f).a (gS ss f).n (gS ss f).c):=by
  rw[h.2.1.cell f];simp[gS,Sl.v,show f<ss.length by omega]
 have fp:=h.2.1.frozen f;have hps:f<(ss.map Sl.v).length:=by simpa[hl]using hf
 have HR:=A4 h;have HL:=A4 hl;clear h hl hps;go_enter Tryz.func84,Tryz.ntmps84
 go_wp2_with fail
 go_region
 have h6:RingAt (w.setCell ⟨s,f,none⟩ (.slice x.a x.n x.c)).drew g s n f n (ss.set f x):=by
  obtain⟨h1,h2,h3⟩:=HR.out;refine⟨(h1.setOther (by exact h3) _).drewN 1,?_,h3⟩
  have:=h2.set_ f (.slice x.a x.n x.c);rw[List.map_set];have h4:An (w.setCell ⟨s,f,none⟩ (.slice x.a x.n x.c)) s 27 ((ss.map Sl.v).set f (.slice x.a x.n x.c)).toArray:=by simpa using this
  exact h4
 have hsz:Hid (∃q,(w.setCell ⟨s,f,none⟩ (.slice x.a x.n x.c)).drew=(w.setCell ⟨s,q,none⟩ (.slice x.a x.n x.c)).drew):=A4 ⟨_,rfl⟩;have HR6:=A4 h6
 revert HR6 hsz
 clear h6;generalize (w.setCell ⟨s,f,none⟩ (.slice x.a x.n x.c)).drew=w1;intro hsz HR6;clear k0 k1 k2 cp fp;have k1:=HR6.out.1.cell 1;have f1:=HR6.out.1.frozen 1;simp only[Ag,Ae,Af]at k1;obtain⟨m,hm⟩:∃m,m=f+1:=⟨_,rfl⟩;obtain⟨p,hp⟩:∃p,p=m%n:=⟨_,rfl⟩;have hw1:(f:Int)+1=(m:Int):=by omega
 have hw2:(m:Int)%(n:Int)=(p:Int):=by rw[hp];rfl
 have hw3:Int.tmod (m:Int) (n:Int)=(p:Int):=by rw[hp];rfl
 have hmb:m≤65536:=by omega
 have HM:=A4 (Be hm hp);clear hm hp;go_wp2_with fail
 go_ret2
 refine⟨rfl,?_,?_⟩
 ·rw[←HM.out.1,←HM.out.2]
  obtain⟨h1,h2,h3⟩:=HR6.out;refine⟨?_,h2.setOther (by exact fun e=>h3 e.symm) _,h3⟩
  simpa using h1.set_ 1 (.int .i64 (p:Int))
 ·exact I124
end Go.Proofs.YtiahhfglhlgfiaaGreat.RS
