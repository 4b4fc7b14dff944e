/-
  Part ZUtfA.
-/
import Derived.Test.YtkaefdmhlmlhbaaGreatZUtfH
import Derived.Test.YtkaefdmhlmlhbaaGreatZUtfPut
import Derived.Laws.RangeAny
set_option maxRecDepth 100000
set_option maxHeartbeats 16000000
set_option linter.unusedVariables false
set_option linter.unusedSimpArgs false
namespace Go.Proofs.YtkaefdmhlmlhbaaGreat
open Go.RowKit
open _root_.List renaming getElem?_eq_getElem→Bm,length_append→Ba,length_drop→Ch,length→Ll,take_of_length_le→Bi
open _root_.Nat renaming le_refl→Aj
open Value renaming int→At
section
variable {r:List Nat}{l:List Int}{A:Option Addr}{w:World}{f:Nat}
theorem bO (h0:r.length≠0)(h:Eg r≠0):Nq (f+1) r=[]∧M8 (f+1) r=Eg r∧Qq (f+1) r=0:=by
 have hn:r.length=0∨Eg r≠0:=.inr h;exact⟨by rw[Nq,if_pos hn],by rw[M8,if_neg h0,if_pos h],by rw[Qq,if_pos hn]⟩
theorem bP (h0:r.length≠0)(h:Eg r=0):Nq (f+1) r=(Ex r:Int)::Nq f (r.drop (Eu r))∧M8 (f+1) r=M8 f (r.drop (Eu r))∧Qq (f+1) r=Eu r+Qq f (r.drop (Eu r)):=by
 have hn:¬(r.length=0∨Eg r≠0):=by rw[h];simp only[ne_eq,not_true_eq_false,or_false];exact h0
 exact⟨by rw[Nq,if_neg hn],by rw[M8,if_neg h0,if_neg (by rw[h];simp)],by rw[Qq,if_neg hn]⟩
theorem xD (h0:r.length=0):Nq f r=[]∧M8 f r=0∧Qq f r=0:=by
 cases f with
 |zero=>exact⟨rfl,rfl,rfl⟩
 |succ f=>exact⟨by rw[Nq,if_pos (.inl h0)],by rw[M8,if_pos h0],by rw[Qq,if_pos (.inl h0)]⟩
theorem rI (hb:∀x∈r,x<256)(h:Eg r=0):1≤Eu r∧Eu r≤r.length:=by
 obtain⟨h1,h2,m,h3⟩:=nX hb h;have hp:=Mz (Ex r);have:=congrArg Ll h3;rw[Ba]at this;omega
theorem J0z {s:ByteArray}(hs:s.size≤9223372036854775807)(hM:(Nq s.size (Ao s)).length≤17592186043904):
 Calls Tryz.prog 17 #[.string s] w fun e w'=>∃A q c l,e=.returned (.tuple #[.slice A q c,.int .i64 (Qq s.size (Ao s)),.int .i64 (M8 s.size (Ao s))])∧Bl w' A q c l∧
  (M8 s.size (Ao s)=0→l=Nq s.size (Ao s))∧(M8 s.size (Ao s)≠0→l=[])∧An w w':=by
 obtain⟨i0,hi,hz0,hz1,hz2⟩:=info_parts Cb;have HN:=A6 (Dx s);have HB:=A6 (Pm s);have HG:Hid (∀(k:Nat) (wq:World),Calls Tryz.prog 38 #[.string (s.extract k s.size)] wq fun e w'=>e=.returned (.tuple #[.int .i64 (Ex ((Ao s).drop k)),.int .i64 (Eu ((Ao s).drop k)),.int .i64 (Eg ((Ao s).drop k))])∧wq=w'):=
  A6 fun k wq=>by rw[←kV];exact Mw _ _
 have HL0:Hid (Nq s.size (Ao s)=[]++Nq s.size ((Ao s).drop 0)):=A6 (by rw[List.drop_zero];rfl)
 have HW0:Hid (Qq s.size (Ao s)=0+Qq s.size ((Ao s).drop 0)):=A6 (by rw[List.drop_zero,Nat.zero_add])
 have HE0:Hid (M8 s.size (Ao s)=M8 s.size ((Ao s).drop 0)):=A6 (by rw[List.drop_zero])
 generalize hLL:Nq s.size (Ao s)=LL at*;generalize hWW:Qq s.size (Ao s)=WW at*;generalize hEE:M8 s.size (Ao s)=EE at*;clear hLL hWW hEE;have HMx:=A6 hM;clear hM;go_enter Tryz.func17,Tryz.ntmps17
 go_wp2_with fail
 go_loopw [5,6] (fun v i wr=>∃(k f q c:Nat) (A:Option Addr) (out:List Int),i=.int .i64 k∧v=.slice A q c∧Av wr w.heap.size A q c out∧k≤s.size∧Hid (s.size-k≤f)∧
  Hid (LL=out++Nq f ((Ao s).drop k))∧Hid (WW=k+Qq f ((Ao s).drop k))∧Hid (EE=M8 f ((Ao s).drop k))∧An w wr) (fun _ i _=>s.size-(intOf i).toNat)
 case atStart=>exact⟨0,s.size,0,0,none,[],rfl,rfl,Av.nil _ _,by omega,A6 (by omega),HL0,HW0,HE0,An.refl _⟩
 case round=>
  clear HL0 HW0 HE0;obtain⟨k,f,q,c,A,out,rfl,rfl,hown,hks,hf,hL,hW,hE,he⟩:=hrel;by_cases hlt:k<s.size
  ·have hr0:((Ao s).drop k).length≠0:=by rw[Ch,HN.out];omega
   obtain⟨f,rfl⟩:∃f',f=f'+1:=⟨f-1,by have:=hf.out;omega⟩
   by_cases hg:Eg ((Ao s).drop k)=0
   ·obtain⟨a1,a2,a3⟩:=bP (f:=f) hr0 hg
    obtain⟨g1,g2⟩:=rI (fun x hx=>HB.out x (List.mem_of_mem_drop hx)) hg
    rw[Ch,HN.out]at g2;have HC:=A6 (HG.out k);rw[hg]at HC;have hL':Hid (LL=(out++[(Ex ((Ao s).drop k):Int)])++Nq f ((Ao s).drop (k+Eu ((Ao s).drop k)))):=A6 (by rw[hL.out,a1,List.drop_drop];simp)
    have hW':Hid (WW=(k+Eu ((Ao s).drop k))+Qq f ((Ao s).drop (k+Eu ((Ao s).drop k)))):=A6 (by rw[hW.out,a3,List.drop_drop];omega)
    have hE':Hid (EE=M8 f ((Ao s).drop (k+Eu ((Ao s).drop k)))):=A6 (by rw[hE.out,a2,List.drop_drop])
    have hq:q+1≤17592186043904:=by
     have e1:=congrArg Ll hL'.out;rw[Ba,Ba,List.length_singleton]at e1;have e2:=hown.ints.len;have e3:=HMx.out;omega
    clear hL hW hE a1 a2 a3 hg hr0;generalize Ex ((Ao s).drop k)=gc at*;generalize Eu ((Ao s).drop k)=gw at*;go_wp2_with fail
    refine(HC.out _).mono ?_
    rintro e w' ⟨rfl,rfl⟩;clear HC;go_wp2_with (at_builtin;refine C6 rfl (.tmp 26) (.tmp 28) 25 rfl w w.heap.size 3 i0 (.int .i64 0) 1 8 Tryz.underlying25 hi hz0 hz1 hz2 rfl (by decide) A q c _ rfl hown #[.int .i64 gc] rfl ?_ rfl ?_ ?_ he (Aj _) he.hsize ?_)
    ·rfl
    ·unfold maxLen;omega
    ·omega
    ·intro A2 c2 w2 hown2 hgr hor he2
     have hown3:Av w2 w.heap.size A2 (q+1) c2 (out++[(gc:Int)]):=by simpa[Av]using hown2
     clear hown hown2 hgr hor he;go_wp2_with fail
     go_roundw
     case rel=>exact⟨k+gw,f,q+1,c2,A2,_,by go_num,rfl,hown3,by omega,A6 (by have:=hf.out;omega),hL',hW',hE',he2⟩
     case measure=>simp[intOf];omega
   ·obtain⟨a1,a2,a3⟩:=bO (f:=f) hr0 hg
    have HC:=A6 (HG.out k);have hW':Hid (WW=k):=A6 (by rw[hW.out,a3,Nat.add_zero])
    have hE':Hid (EE=Eg ((Ao s).drop k)):=A6 (by rw[hE.out,a2])
    have hne:((Eg ((Ao s).drop k):Int) !=0)=true:=by simp;omega
    have hX:Hid (EE≠0):=A6 (by rw[hE'.out];exact hg)
    clear hL hW hE a1 a2 a3 hg hr0;generalize Eg ((Ao s).drop k)=ge at*;generalize Ex ((Ao s).drop k)=gc at*;generalize Eu ((Ao s).drop k)=gw at*;go_wp2_with fail
    refine(HC.out _).mono ?_
    rintro e w' ⟨rfl,rfl⟩;clear HC;go_wp2_with fail
    go_ret3
    refine⟨none,0,0,[],?_,Bl.none_ _,fun h=>absurd h hX.out,fun _=>rfl,he⟩
    rw[hW'.out,hE'.out];rfl
  ·obtain rfl:k=s.size:=by omega
   have hr0:((Ao s).drop s.size).length=0:=by rw[Ch,HN.out];omega
   obtain⟨a1,a2,a3⟩:=xD (f:=f) hr0;have hL':Hid (out=LL):=A6 (by rw[hL.out,a1,List.append_nil])
   have hW':Hid (WW=s.size):=A6 (by rw[hW.out,a3,Nat.add_zero])
   have hE':Hid (EE=0):=A6 (by rw[hE.out,a2])
   clear hL hW hE a1 a2 a3 hr0;go_wp2_with fail
   go_ret3
   refine⟨A,q,c,out,?_,hown.ints,fun _=>hL'.out,fun h=>absurd hE'.out h,he⟩
   rw[hW'.out,hE'.out];rfl
theorem lK:(Tryz.prog.info? 21).map (fun i=>(i.zero,i.size,i.bytes))=some (some (.int .i32 0),1,4):=by kernel_rfl
theorem fL {base n c:Nat}(h:Bd w base 21 1 A n c (l.map (At .i32)))(hs:∀x∈l,El x):
 (convert 145 9 (.slice A n c)).run Tryz.prog w=.ok (.string (Ef (M7 l))) w:=by
 have hr:=Bd.rd h;have hln:l.length=n:=by have:=hr.len;rw[List.length_map]at this;omega
 by_cases h0:n=0
 ·subst h0
  obtain rfl:l=[]:=List.length_eq_zero_iff.1 hln;cases A with
  |none=>
   rw[run_convert_runes_nil w _ _ 21 0 c Tryz.underlying145 Tryz.underlying21 Tryz.underlying9]
   rfl
  |some a=>
   rw[run_convert_runes w _ _ 21 a 0 c [] (by simp) Tryz.underlying145 Tryz.underlying21 Tryz.underlying9 (by simp)]
   rfl
 ·obtain⟨a,rfl,_⟩:=hr.at_ (k:=0) (by omega)
  have hc:∀j,j<l.length→w.cell? (a.add j)=some (.int .i32 (l.getD j 0)):=by
   intro j hj;obtain⟨a',e1,hc⟩:=hr.at_ (k:=j) (by omega)
   injection e1 with e1;subst e1;refine hc j _ ?_
   rw[List.getElem?_map,Bm hj];simp[List.getD,Bm hj]
  rw[run_convert_runes w _ _ 21 a n c l (by omega) Tryz.underlying145 Tryz.underlying21 Tryz.underlying9 hc,Bi (by omega),Wt hs]
theorem Tf {k:Nat}(h:k<l.length):l.take (k+1)=l.take k++[gI l k]:=by
 rw[List.take_succ_eq_append_getElem h];simp[gI,Bm h]
theorem nZ {k:Nat}(h:k<l.length):gI l k∈l:=by
 unfold gI;rw[Bm h];exact List.getElem_mem h
theorem jK {n c:Nat}(hl:Bl w A n c l)(hn:n≤17592186043904):
 Calls Tryz.prog 44 #[.slice A n c] w fun e w'=>((∀x∈l,El x)→e=.returned (.tuple #[.string (Ef (M7 l)),.int .i64 0]))∧(¬(∀x∈l,El x)→e=.returned (.tuple #[.string ⟨#[]⟩,.int .i64 1]))∧An w w':=by
 obtain⟨i0,hi,hz0,hz1,hz2⟩:=info_parts lK;have hmk:∀u:World,(Instr.makeSlice 145 (.int .i64 0) (.int .i64 (n:Int))).run Tryz.prog u=
  .ok (.slice (some ⟨u.heap.size,0,none⟩) 0 n) (u.alloc (.cells (madeCells #[.int .i32 0] n) 21)):=fun u=>by
  have h:=run_make (P:=Tryz.prog) u 145 21 i0 (.int .i32 0) Tryz.underlying145 hi hz0 .i64 .i64 0 (n:Int) (by omega) (by omega) (by rw[hz2];omega) (by omega)
  simpa[hz1,Value.cells]using h
 have hown0:Bd (w.alloc (.cells (madeCells #[.int .i32 0] n) 21)) w.heap.size 21 1 (some ⟨w.heap.size,0,none⟩) 0 n []:=
  World.ownsRow_made w _ _ (Aj _) (by unfold maxLen;omega) (by simp[size_madeCells])
 have hlen:=A6 hl.len;have HI:=A6 hi;clear hi;go_enter Tryz.func44,Tryz.ntmps44
 go_wp2_with fail
 go_loopw [4,12] (fun v i wr=>∃(k d:Nat) (B:Option Addr),k≤n∧v=.slice B k d∧i=.int .i64 k∧Bd wr w.heap.size 21 1 B k d ((l.take k).map (At .i32))∧Hid (∀x∈l.take k,El x)∧An w wr) (fun _ i _=>n-(intOf i).toNat)
 case atStart=>exact⟨0,n,_,by omega,rfl,rfl,hown0,A6 (by simp),An.alloc _ _⟩
 case round=>
  clear hown0 hmk;obtain⟨k,d,B,hk,rfl,rfl,hown,hsc,he⟩:=hrel;by_cases hlt:k<n
  ·obtain⟨ad,rfl,hc⟩:=hl.at_ hlt
   have d1:=he.cell (hc k hlt);have hkl:k<l.length:=by rw[hlen.out];exact hlt
   by_cases hs:El (gI l k)
   ·have HS:=A6 (Vl hs)
    have hw1:IntKind.i32.wrap (gI l k)=gI l k:=by rw[IntKind.wrap_i32];have:=hs.1;have:=hs.2.1;omega
    have hsc':Hid (∀x∈l.take (k+1),El x):=A6 (by
     rw[Tf hkl];intro x hx;rcases List.mem_append.1 hx with hx|hx
     ·exact hsc.out x hx
     ·obtain rfl:=List.mem_singleton.1 hx;exact hs)
    clear hs hsc;have hi:=HI.out;go_wp2_with fail
    refine(HS.out _).mono ?_
    rintro e w' ⟨rfl,rfl⟩;clear HS;go_wp2_with (at_builtin;refine C6 rfl (.tmp 19) (.tmp 22) 145 rfl w w.heap.size 21 i0 (.int .i32 0) 1 4 Tryz.underlying145 hi hz0 hz1 hz2 rfl (by decide) B k d _ rfl hown #[.int .i32 (gI l k)] rfl ?_ rfl ?_ ?_ he (Aj _) he.hsize ?_)
    ·rfl
    ·unfold maxLen;omega
    ·omega
    ·intro A2 c2 w2 hown2 hgr hor he2
     have hown3:Bd w2 w.heap.size 21 1 A2 (k+1) c2 ((l.take (k+1)).map (At .i32)):=by rw[Tf hkl];simpa using hown2
     clear hown hown2 hgr hor he d1 hc hi;go_wp2_with fail
     go_roundw
     case rel=>exact⟨k+1,c2,A2,by omega,rfl,by go_num,hown3,hsc',he2⟩
     case measure=>simp[intOf];omega
   ·have HS:=A6 (Xh hs)
    have HN:Hid (¬ ∀x∈l,El x):=A6 fun h=>hs (h _ (nZ hkl))
    clear hs hsc;go_wp2_with fail
    refine(HS.out _).mono ?_
    rintro e w' ⟨rfl,rfl⟩;go_wp2_with fail
    go_ret2
    exact⟨fun h=>absurd h HN.out,fun _=>rfl,he⟩
  ·obtain rfl:k=n:=by omega
   have hsc':Hid (∀x∈l,El x):=A6 (by have:=hsc.out;rwa[Bi (by rw[hlen.out];exact Aj _)]at this)
   rw[Bi (by rw[hlen.out];exact Aj _)]at hown
   have hcv:=fL hown hsc'.out;clear hsc hown;go_wp2_with fail
   go_ret2
   exact⟨fun _=>rfl,fun h=>absurd hsc'.out h,he⟩
theorem Xd (l:List Nat):(Ef l).size=l.length:=by
 show(Ef l).data.size=_
 unfold Ef;simp
end
