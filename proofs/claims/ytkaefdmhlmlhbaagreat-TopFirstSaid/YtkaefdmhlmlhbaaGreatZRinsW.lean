/-
  Part ZRinsW.
-/
import Derived.Test.YtkaefdmhlmlhbaaGreatZRinsM
import Derived.IntWalk
set_option maxRecDepth 100000
set_option maxHeartbeats 16000000
set_option linter.unusedVariables false
set_option linter.unusedSimpArgs false
namespace Go.Proofs.YtkaefdmhlmlhbaaGreat.RS
open _root_.Go.Proofs.Tryz
open _root_.And renaming intro→Au
open _root_.List renaming getElem?_cons_succ→Ag,getElem?_cons_zero→Af,getElem?_toArray→Ah,replicate→Aw
open Go.RowKit
def RingAt (w:World)(g s n f z:Nat)(ss:List Sl):Prop:=
 Aq w g 250 #[.slice (some ⟨s,0,none⟩) n n,.int .i64 f,.int .i64 z]∧Aq w s 25 (ss.map Sl.v).toArray∧s≠g
theorem RingAt.ext {w w':World}{g s n f z:Nat}{ss:List Sl}(h:RingAt w g s n f z ss)(he:An w w'):RingAt w' g s n f z ss:=⟨h.1.ext he,h.2.1.ext he,h.2.2⟩
theorem RingAt.drewN {w:World}{g s n f z:Nat}{ss:List Sl}(h:RingAt w g s n f z ss)(k:Nat):RingAt (w.drewN k) g s n f z ss:=h
theorem _root_.Go.Proofs.YtkaefdmhlmlhbaaGreat.Aq.setOther {w:World}{g t:Nat}{cs:Array Value}(h:Aq w g t cs){p:Addr}(hp:p.block≠g)(u:Value):Aq (w.setCell p u) g t cs:=by
 exact I103
theorem made_strs (n:Nat):madeCells (Value.slice none 0 0).cells n=((Aw n Sl.zero).map Sl.v).toArray:=by
 apply Array.ext
 ·simp[size_madeCells]
 ·intro i h1 h2
  simp[madeCells,Value.cells,Nat.mod_one,Sl.v,Sl.zero]
theorem ringNew_ok (most:Int)(room:Nat)(hr:(65536<most∧room=65536)∨(most≤65536∧0<most∧(room:Int)=most)∨(most≤0∧room=0))(w:World):
 Calls prog 130 #[.int .i64 most] w fun e w'=>e=.returned (.pointer (some ⟨w.heap.size+1,0,none⟩))∧RingAt w' (w.heap.size+1) w.heap.size room 0 0 (Aw room Sl.zero)∧An w w':=by
 obtain⟨i0,hi,bm,bz,az⟩:=info_parts Ns;have f6:∀(x:Int),x=(room:Int)→∀u:World,(Instr.makeSlice 39 (.int .i64 x) (.int .i64 x)).run prog u=
  .ok (.slice (some ⟨u,0,none⟩) room room) (u.alloc (.cells (madeCells #[()] room) 25)):=fun x hx u=>by
  subst hx;have h:=run_make (P:=prog) u 39 25 i0 (.slice none 0 0) underlying39 hi bm .i64 .i64 (room:Int) (room:Int) (by omega) (Int.le_refl _) (by rw[az];omega) (by omega)
  simpa[bz,Value.cells]using h
 have UQ:Hid (∀x y:World,x=w.alloc (.cells (madeCells #[()] room) 25)→y=x.alloc (.cells #[.slice (some ⟨w,0,none⟩) room room,(0:Int),(0:Int)] 250)→RingAt y (w.heap.size+1) w.heap.size room 0 0 (Aw room Sl.zero)∧An w y):=A6 (by
  rintro x y rfl rfl;refine⟨⟨?_,?_,by omega⟩,(An.alloc _ _).to_alloc _⟩
  ·have:=Aq.new (w.alloc (.cells (madeCells #[()] room) 25)) 250 #[.slice (some ⟨w,0,none⟩) room room,.int .i64 0,.int .i64 0]
   simpa using this
  ·have h1:=(Aq.new w 25 (madeCells #[()] room)).ext (An.alloc _ (.cells #[.slice (some ⟨w,0,none⟩) room room,(0:Int),(0:Int)] 250))
   have h2:=made_strs room;simp only[Value.cells]at h2;rw[h2]at h1 ⊢;exact h1)
 clear hi bm bz az;rcases hr with⟨h1,h2⟩|⟨h1,h2,h3⟩|⟨h1,h2⟩
 ·have hm:=f6 65536 (by omega)
  clear f6 h2;exact I33
 ·have hm:=f6 most (by omega)
  clear f6 h3;exact I33
 ·have hm:=f6 0 (by omega)
  clear f6 h2;exact I33
theorem push_zero (x:Sl){g s f z:Nat}{ss:List Sl}{w:World}(h:RingAt w g s 0 f z ss):
 Calls prog 131 #[.pointer (some ⟨g,0,none⟩),.slice x.a x.n x.c] w fun e w'=>e=.returned (.tuple #[.slice x.a x.n x.c,true])∧w=w':=by
 have k0:=h.1.cell 0;simp only[Ah,Af,Ag]at k0;clear h;go_enter func131,ntmps131
 go_wp2_with fail
 go_ret2
 exact⟨rfl,rfl⟩
theorem push_room (x:Sl){g s n f z:Nat}{ss:List Sl}{w:World}(h:RingAt w g s n f z ss)(hl:ss.length=n)(hz:z<n)(hf:f<n)(hn:n≤65536):
 Calls prog 131 #[.pointer (some ⟨g,0,none⟩),.slice x.a x.n x.c] w fun e w'=>e=.returned (.tuple #[(),false])∧RingAt w' g s n f (z+1) (ss.set ((f+z)%n) x)∧∃p i u,w'=(w.setCell ⟨s,p,none⟩ (.slice x.a x.n x.c)).drew.setCell ⟨g,i,none⟩ u:=by
 have k0:=h.1.cell 0;have k1:=h.1.cell 1;have k2:=h.1.cell 2;have f2:=h.1.frozen 2;simp only[Ah,Af,Ag]at k0 k1 k2;obtain⟨m,hm⟩:∃m,m=f+z:=⟨_,rfl⟩;obtain⟨p,hp⟩:∃p,p=m%n:=⟨_,rfl⟩;have od:p<n:=by rw[hp];exact Nat.mod_lt _ (by omega)
 have mg:IntKind.i64.wrap ((f:Int)+(z:Int))=(m:Int):=by rw[IntWalk.i64_in _ (by omega)];omega
 have jw:Int.tmod (m:Int) (n:Int)=(p:Int):=by rw[hp];rfl
 have SW:p<(ss.map Sl.v).length:=by simpa[hl]using od
 have cp:w.cell? ⟨s,p,none⟩=some (.slice (gS ss p).a (gS ss p).n (gS ss p).c):=by
  exact I135
 have fp:=h.2.1.frozen p;have HM:=A6 (Au hm hp);have HR:=A6 h;have HL:=A6 hl;clear h hl hm hp SW;go_enter func131,ntmps131
 go_wp2_with fail
 go_region
 have h6:RingAt (w.setCell ⟨s,p,none⟩ (.slice x.a x.n x.c)).drew g s n f z (ss.set p x):=by
  obtain⟨h1,h2,h3⟩:=HR.out;refine⟨(h1.setOther (by exact h3) _).drewN 1,?_,h3⟩
  have:=h2.set_ p (.slice x.a x.n x.c);rw[List.map_set];have h4:Aq (w.setCell ⟨s,p,none⟩ (.slice x.a x.n x.c)) s 25 ((ss.map Sl.v).set p (.slice x.a x.n x.c)).toArray:=by simpa using this
  exact h4
 have dl:Hid (∃q,(w.setCell ⟨s,p,none⟩ (.slice x.a x.n x.c)).drew=(w.setCell ⟨s,q,none⟩ (.slice x.a x.n x.c)).drew):=A6 ⟨_,rfl⟩;have o5:=A6 h6
 revert o5 dl
 clear h6;generalize (w.setCell ⟨s,p,none⟩ (.slice x.a x.n x.c)).drew=w1;intro dl o5;clear k0 k1 k2 f2 cp fp;have k0:=o5.out.1.cell 0;have k1:=o5.out.1.cell 1;have k2:=o5.out.1.cell 2;have f2:=o5.out.1.frozen 2;simp only[Ah,Af,Ag]at k0 k1 k2;go_wp2_with fail
 go_ret2
 refine⟨rfl,?_,?_⟩
 ·rw[←HM.out.1,←HM.out.2]
  obtain⟨h1,h2,h3⟩:=o5.out;refine⟨?_,h2.setOther (by exact fun e=>h3 e.symm) _,h3⟩
  simpa using h1.set_ 2 (.int .i64 ((z+1:Nat):Int))
 ·exact I138
theorem push_full (x:Sl){g s n f:Nat}{ss:List Sl}{w:World}(h:RingAt w g s n f n ss)(hl:ss.length=n)(hf:f<n)(hn:n≤65536):
 Calls prog 131 #[.pointer (some ⟨g,0,none⟩),.slice x.a x.n x.c] w fun e w'=>e=.returned (.tuple #[.slice (gS ss f).a (gS ss f).n (gS ss f).c,true])∧RingAt w' g s n ((f+1)%n) n (ss.set f x)∧∃p i u,w'=(w.setCell ⟨s,p,none⟩ (.slice x.a x.n x.c)).drew.setCell ⟨g,i,none⟩ u:=by
 have k0:=h.1.cell 0;have k1:=h.1.cell 1;have k2:=h.1.cell 2;simp only[Ah,Af,Ag]at k0 k1 k2;have cp:w.cell? ⟨s,f,none⟩=some (.slice (gS ss f).a (gS ss f).n (gS ss f).c):=by
  rw[h.2.1.cell f];simp[gS,Sl.v,show f<ss.length by omega]
 have fp:=h.2.1.frozen f;have SW:f<(ss.map Sl.v).length:=by simpa[hl]using hf
 have HR:=A6 h;have HL:=A6 hl;clear h hl SW;go_enter func131,ntmps131
 go_wp2_with fail
 go_region
 have h6:RingAt (w.setCell ⟨s,f,none⟩ (.slice x.a x.n x.c)).drew g s n f n (ss.set f x):=by
  obtain⟨h1,h2,h3⟩:=HR.out;refine⟨(h1.setOther (by exact h3) _).drewN 1,?_,h3⟩
  have:=h2.set_ f (.slice x.a x.n x.c);rw[List.map_set];have h4:Aq (w.setCell ⟨s,f,none⟩ (.slice x.a x.n x.c)) s 25 ((ss.map Sl.v).set f (.slice x.a x.n x.c)).toArray:=by simpa using this
  exact h4
 have dl:Hid (∃q,(w.setCell ⟨s,f,none⟩ (.slice x.a x.n x.c)).drew=(w.setCell ⟨s,q,none⟩ (.slice x.a x.n x.c)).drew):=A6 ⟨_,rfl⟩;have o5:=A6 h6
 revert o5 dl
 clear h6;generalize (w.setCell ⟨s,f,none⟩ (.slice x.a x.n x.c)).drew=w1;intro dl o5;clear k0 k1 k2 cp fp;have k1:=o5.out.1.cell 1;have f1:=o5.out.1.frozen 1;simp only[Ah,Af,Ag]at k1;obtain⟨m,hm⟩:∃m,m=f+1:=⟨_,rfl⟩;obtain⟨p,hp⟩:∃p,p=m%n:=⟨_,rfl⟩;have mg:(f:Int)+1=(m:Int):=by omega
 have jw:(m:Int)%(n:Int)=(p:Int):=by rw[hp];rfl
 have QP:Int.tmod (m:Int) (n:Int)=(p:Int):=by rw[hp];rfl
 have LS:m≤65536:=by omega
 have HM:=A6 (Au hm hp);clear hm hp;go_wp2_with fail
 go_ret2
 refine⟨rfl,?_,?_⟩
 ·rw[←HM.out.1,←HM.out.2]
  obtain⟨h1,h2,h3⟩:=o5.out;refine⟨?_,h2.setOther (by exact fun e=>h3 e.symm) _,h3⟩
  simpa using h1.set_ 1 (.int .i64 (p:Int))
 ·exact I138
end Go.Proofs.YtkaefdmhlmlhbaaGreat.RS
