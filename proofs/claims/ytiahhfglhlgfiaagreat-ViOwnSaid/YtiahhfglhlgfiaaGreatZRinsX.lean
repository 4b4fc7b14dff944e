/-
  Part ZRinsX.
-/
import Derived.Test.YtiahhfglhlgfiaaGreatZRinsW
import Derived.WideShapes
set_option maxRecDepth 100000
set_option maxHeartbeats 16000000
set_option linter.unusedVariables false
set_option linter.unusedSimpArgs false
namespace Go.Proofs.YtiahhfglhlgfiaaGreat.RS
open _root_.List renaming getElem?_cons_succ→Af,getElem?_cons_zero→Ae,getElem?_toArray→Ag
open _root_.Nat renaming le_refl→Ai
open Go.RowKit
theorem ringAt_ok {g s n f z k:Nat}{ss:List Sl}{w:World}(h:RingAt w g s n f z ss)(hl:ss.length=n)(hz:z≤n)(hf:f<n)(hn:n≤65536)(hk:k<z):
 Calls Tryz.prog 105 #[.pointer (some ⟨g,0,none⟩),.int .i64 k] w fun e w'=>e=.returned (.tuple #[.slice (gS ss ((f+k)%n)).a (gS ss ((f+k)%n)).n (gS ss ((f+k)%n)).c,.bool true])∧Al w w':=by
 have k0:=h.1.cell 0;have k1:=h.1.cell 1;have k2:=h.1.cell 2;simp only[Ag,Ae,Af]at k0 k1 k2;obtain⟨m,hm⟩:∃m,m=f+k:=⟨_,rfl⟩;obtain⟨p,hp⟩:∃p,p=m%n:=⟨_,rfl⟩;have hpn:p<n:=by rw[hp];exact Nat.mod_lt _ (by omega)
 have hw1:IntKind.i64.wrap ((f:Int)+(k:Int))=(m:Int):=by rw[IntWalk.i64_in _ (by omega)];omega
 have hw2:Int.tmod (m:Int) (n:Int)=(p:Int):=by rw[hp];rfl
 have cp:w.cell? ⟨s,p,none⟩=some (.slice (gS ss p).a (gS ss p).n (gS ss p).c):=by
  exact I121
 have HM:=A4 (And.intro hm hp);clear h hl hm hp;go_enter Tryz.func105,Tryz.ntmps105
 go_wp2_with fail
 go_quiet (fail)
 go_wp2_with fail
 go_ret2
 exact⟨by rw[←HM.out.1,←HM.out.2];rfl,Al.drewN _ _⟩
def ringL (ss:List Sl)(n f z:Nat):List Sl:=(List.range z).map fun k=>gS ss ((f+k)%n)
theorem ringL_len (ss:List Sl)(n f z:Nat):(ringL ss n f z).length=z:=by simp[ringL]
theorem ringL_take {ss:List Sl}{n f z k:Nat}(h:k<z):(ringL ss n f z).take (k+1)=(ringL ss n f z).take k++[gS ss ((f+k)%n)]:=by
 rw[List.take_succ_eq_append_getElem (by rw[ringL_len];exact h)]
 simp[ringL]
theorem ringList_ok {g s n f z:Nat}{ss:List Sl}{w:World}(h:RingAt w g s n f z ss)(hl:ss.length=n)(hz:z≤n)(hf:f<n∨n=0)(hn:n≤65536):
 Calls Tryz.prog 85 #[.pointer (some ⟨g,0,none⟩)] w fun e w'=>∃A c,e=.returned (.slice A z c)∧OwnS w' w.heap.size A z c (ringL ss n f z)∧Al w w':=by
 obtain⟨i0,hi,hz0,hz1,hz2⟩:=info_parts Lp;have hmk:∀u:World,(Instr.makeSlice 41 (.int .i64 0) (.int .i64 (z:Int))).run Tryz.prog u=
  .ok (.slice (some ⟨u.heap.size,0,none⟩) 0 z) (u.alloc (.cells (madeCells #[.slice none 0 0] z) 27)):=fun u=>by
  have h:=run_make (P:=Tryz.prog) u 41 27 i0 (.slice none 0 0) Tryz.underlying41 hi hz0 .i64 .i64 0 (z:Int) (by omega) (by omega) (by rw[hz2];omega) (by omega)
  simpa[hz1,Value.cells]using h
 have k2:=h.1.cell 2;simp only[Ag,Ae,Af]at k2;have hown0:Ay (w.alloc (.cells (madeCells #[.slice none 0 0] z) 27)) w.heap.size 27 1 (some ⟨w.heap.size,0,none⟩) 0 z []:=
  World.ownsRow_made w _ _ (Ai _) (by unfold maxLen;omega) (by simp[size_madeCells])
 have HL:=A4 hl;have HR:=A4 h;have k3:(w.alloc (.cells (madeCells #[.slice none 0 0] z) 27)).cell? ⟨g,2,none⟩=some (.int .i64 z):=(Al.alloc w _).cell k2;clear h hl;go_enter Tryz.func85,Tryz.ntmps85
 have HI:=A4 hi;clear hi;go_wp2_with fail
 go_loopw [3,16] (fun v i wr=>∃(k:Nat) (A:Option Addr) (c:Nat),k≤z∧i=.int .i64 k∧v=.slice A k c∧OwnS wr w.heap.size A k c ((ringL ss n f z).take k)∧Al w wr) (fun _ i _=>z-(intOf i).toNat)
 case atStart=>exact⟨0,_,z,by omega,rfl,rfl,hown0,Al.alloc _ _⟩
 case round=>
  clear hown0 hmk;obtain⟨k,A,c,hk,rfl,rfl,hown,he⟩:=hrel;by_cases hlt:k<z
  ·have HC:=A4 (ringAt_ok (HR.out.ext he) HL.out hz (by omega) hn hlt)
   go_wp2_with fail
   refine HC.out.mono ?_
   rintro e w1 ⟨rfl,he1⟩;have hown1:=Ay.ext hown he1;have he2:=he.trans he1;have HT:=A4 (ringL_take (ss:=ss) (n:=n) (f:=f) hlt);clear HC hown he he1;go_wp2_with (at_builtin;refine Ci rfl (.tmp 25) (.tmp 27) 41 rfl w w.heap.size 27 i0 (.slice none 0 0) 1 24 Tryz.underlying41 HI.out hz0 hz1 hz2 rfl (by decide) A k c _ rfl hown1 #[.slice (gS ss ((f+k)%n)).a (gS ss ((f+k)%n)).n (gS ss ((f+k)%n)).c] rfl ?_ rfl ?_ ?_ he2 (Ai _) he2.hsize ?_)
   ·rfl
   ·unfold maxLen;omega
   ·omega
   ·intro A' c' w2 hown' _ _ he'
    have hown2:OwnS w2 w.heap.size A' (k+1) c' ((ringL ss n f z).take (k+1)):=by
     rw[HT.out];simpa[OwnS,Sl.v]using hown'
    clear hown1 hown' he2 HT;go_wp2_with fail
    go_roundw
    case rel=>exact⟨k+1,A',c',by omega,by go_num,rfl,hown2,he'⟩
    case measure=>simp[intOf];omega
  ·obtain rfl:k=z:=by omega
   go_wp2_with fail
   go_ret
   exact⟨A,c,rfl,by rw[List.take_of_length_le (by rw[ringL_len];omega)]at hown;exact hown,he⟩
end Go.Proofs.YtiahhfglhlgfiaaGreat.RS
