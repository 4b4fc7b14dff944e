/-
  Part ZRinsX.
-/
import Derived.Test.YtkaefdmhlmlhbaaGreatZRinsW
import Derived.WideShapes
set_option maxRecDepth 100000
set_option maxHeartbeats 16000000
set_option linter.unusedVariables false
set_option linter.unusedSimpArgs false
namespace Go.Proofs.YtkaefdmhlmlhbaaGreat.RS
open _root_.Go.Proofs.Tryz
open _root_.List renaming getElem?_cons_succ→Ag,getElem?_cons_zero→Af,getElem?_toArray→Ah
open _root_.Nat renaming le_refl→Aj
open Go.RowKit
theorem ringAt_ok {g s n f z k:Nat}{ss:List Sl}{w:World}(h:RingAt w g s n f z ss)(hl:ss.length=n)(hz:z≤n)(hf:f<n)(hn:n≤65536)(hk:k<z):
 Calls prog 159 #[.pointer (some ⟨g,0,none⟩),.int .i64 k] w fun e w'=>e=.returned (.tuple #[.slice (gS ss ((f+k)%n)).a (gS ss ((f+k)%n)).n (gS ss ((f+k)%n)).c,true])∧An w w':=by
 have k0:=h.1.cell 0;have k1:=h.1.cell 1;have k2:=h.1.cell 2;simp only[Ah,Af,Ag]at k0 k1 k2;obtain⟨m,hm⟩:∃m,m=f+k:=⟨_,rfl⟩;obtain⟨p,hp⟩:∃p,p=m%n:=⟨_,rfl⟩;have od:p<n:=by rw[hp];exact Nat.mod_lt _ (by omega)
 have mg:IntKind.i64.wrap ((f:Int)+(k:Int))=(m:Int):=by rw[IntWalk.i64_in _ (by omega)];omega
 have jw:Int.tmod (m:Int) (n:Int)=(p:Int):=by rw[hp];rfl
 have cp:w.cell? ⟨s,p,none⟩=some (.slice (gS ss p).a (gS ss p).n (gS ss p).c):=by
  exact I135
 have HM:=A6 (And.intro hm hp);clear h hl hm hp;go_enter func159,ntmps159
 go_wp2_with fail
 go_quiet (fail)
 go_wp2_with fail
 go_ret2
 exact⟨by rw[←HM.out.1,←HM.out.2];rfl,An.drewN _ _⟩
def ringL (ss:List Sl)(n f z:Nat):List Sl:=(List.range z).map fun k=>gS ss ((f+k)%n)
theorem ringL_len (ss:List Sl)(n f z:Nat):(ringL ss n f z).length=z:=by simp[ringL]
theorem ringL_take {ss:List Sl}{n f z k:Nat}(h:k<z):(ringL ss n f z).take (k+1)=(ringL ss n f z).take k++[gS ss ((f+k)%n)]:=by
 rw[List.take_succ_eq_append_getElem (by rw[ringL_len];exact h)]
 simp[ringL]
theorem ringList_ok {g s n f z:Nat}{ss:List Sl}{w:World}(h:RingAt w g s n f z ss)(hl:ss.length=n)(hz:z≤n)(hf:f<n∨n=0)(hn:n≤65536):
 Calls prog 132 #[.pointer (some ⟨g,0,none⟩)] w fun e w'=>∃A c,e=.returned (.slice A z c)∧OwnS w' w.heap.size A z c (ringL ss n f z)∧An w w':=by
 obtain⟨i0,hi,bm,bz,az⟩:=info_parts Ns;have f6:∀u:World,(Instr.makeSlice 39 (.int .i64 0) (.int .i64 (z:Int))).run prog u=
  .ok (.slice (some ⟨u,0,none⟩) 0 z) (u.alloc (.cells (madeCells #[()] z) 25)):=fun u=>by
  have h:=run_make (P:=prog) u 39 25 i0 (.slice none 0 0) underlying39 hi bm .i64 .i64 0 (z:Int) (by omega) (by omega) (by rw[az];omega) (by omega)
  simpa[bz,Value.cells]using h
 have k2:=h.1.cell 2;simp only[Ah,Af,Ag]at k2;have dg:Bd (w.alloc (.cells (madeCells #[()] z) 25)) w.heap.size 25 1 (some ⟨w,0,none⟩) 0 z []:=
  World.ownsRow_made w _ _ (Aj _) (by unfold maxLen;omega) (by simp[size_madeCells])
 have HL:=A6 hl;have HR:=A6 h;have k3:(w.alloc (.cells (madeCells #[()] z) 25)).cell? ⟨g,2,none⟩=some (.int .i64 z):=(An.alloc w _).cell k2;clear h hl;go_enter func132,ntmps132
 have HI:=A6 hi;clear hi;go_wp2_with fail
 go_loopw [3,16] (fun v i wr=>∃(k:Nat) (A:Option Addr) (c:Nat),k≤z∧i=.int .i64 k∧v=.slice A k c∧OwnS wr w.heap.size A k c ((ringL ss n f z).take k)∧An w wr) (fun _ i _=>z-(intOf i).toNat)
 case atStart=>exact⟨0,_,z,by omega,rfl,rfl,dg,An.alloc _ _⟩
 case round=>
  clear dg f6;obtain⟨k,A,c,hk,rfl,rfl,ac,he⟩:=hrel;by_cases ae:k<z
  ·have HC:=A6 (ringAt_ok (HR.out.ext he) HL.out hz (by omega) hn ae)
   go_wp2_with fail
   refine HC.out.mono ?_
   rintro e w1 ⟨rfl,aj⟩;have jv:=Bd.ext ac aj;have au:=he.trans aj;have HT:=A6 (ringL_take (ss:=ss) (n:=n) (f:=f) ae);clear HC ac he aj;go_wp2_with (at_builtin;refine C9 rfl (.tmp 25) (.tmp 27) 39 rfl w w.heap.size 25 i0 (.slice none 0 0) 1 24 underlying39 HI.out bm bz az rfl (by decide) A k c _ rfl jv #[.slice (gS ss ((f+k)%n)).a (gS ss ((f+k)%n)).n (gS ss ((f+k)%n)).c] rfl ?_ rfl ?_ ?_ au (Aj _) au.hsize ?_)
   ·rfl
   ·unfold maxLen;omega
   ·omega
   ·intro A' c' w2 ce _ _ fw
    have dh:OwnS w2 w.heap.size A' (k+1) c' ((ringL ss n f z).take (k+1)):=by
     rw[HT.out];simpa[OwnS,Sl.v]using ce
    clear jv ce au HT;go_wp2_with fail
    go_roundw
    case rel=>exact⟨k+1,A',c',by omega,by go_num,rfl,dh,fw⟩
    case measure=>simp[intOf];omega
  ·obtain rfl:k=z:=by omega
   go_wp2_with fail
   go_ret
   exact⟨A,c,rfl,by rw[List.take_of_length_le (by rw[ringL_len];omega)]at ac;exact ac,he⟩
end Go.Proofs.YtkaefdmhlmlhbaaGreat.RS
