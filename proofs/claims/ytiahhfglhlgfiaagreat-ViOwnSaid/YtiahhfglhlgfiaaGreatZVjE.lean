/-
  Part ZVjE.
-/
import Derived.Test.YtiahhfglhlgfiaaGreatZVjD
set_option maxRecDepth 100000
set_option maxHeartbeats 16000000
set_option linter.unusedVariables false
set_option linter.unusedSimpArgs false
namespace Go.Proofs.YtiahhfglhlgfiaaGreat
open Go.RowKit
open Act renaming put→Am
open AllReadyH renaming cons→Ah,nil→Ak
open _root_.And renaming intro→Be
open _root_.Array renaming getElem?_setIfInBounds_ne→D1,getElem?_setIfInBounds_self→J0d
open _root_.List renaming getElem?_eq_getElem→By,getElem_cons_succ→Aa,getElem_cons_zero→A7,getElem_toArray→Ab,replicate→Ar,setIfInBounds_toArray→A6,set_cons_succ→Ad,set_cons_zero→Ac
open _root_.Nat renaming le_refl→Ai,le_trans→Ap,zero_le→Aw
open Value renaming oneCell'→Bt,slice→Aj
open World renaming size_alloc→Cc
open _root_.Int renaming le_refl→Lc
section
variable {cs:Array Value}{w w':World}{evs:List (Int×List Int)}{A B:Option Addr}{s:PS}{l:List Int}{xs:List Value}{col:Nat→Nat}{most:Int}{b W:Nat}
theorem dF {P:Program}{o:Oper}{a:Act}(t:TypeId)(parts:Array (Nat×Operand))(ho:o.op=.build t parts)(cells:Array Value)
 (hf:P.built t (parts.map fun(i,x)=>(i,a.eval x)).toList=some cells):(execOp a.eval o).run P w=.ok (.value (.agg cells)) w:=by
 unfold execOp;simp only[ho,Sem.run_bind,run_build w t _ cells hf,Result.andThen_ok,Sem.run_pure]
def Hu (A:Option Addr)(n c:Nat)(B:Option Addr)(m d h:Nat)(s:PS):Array Value:=#[.slice A n c,.int .i64 s.at_,.int .i64 s.mode,.int .i64 s.part.first,.int .i64 s.part.reg,.int .i64 s.part.op,.int .i64 s.part.second,.int .i64 s.part.wait,.int .i64 s.fk,.int .i64 s.fa,.slice none 0 0,.slice none 0 0,.slice none 0 0,.slice none 0 0,.slice none 0 0,.slice none 0 0,.slice none 0 0,.slice none 0 0,.slice none 0 0,.slice none 0 0,.slice none 0 0,.slice none 0 0,.slice none 0 0,.slice none 0 0,.slice none 0 0,.slice none 0 0,.slice none 0 0,.slice none 0 0,.slice none 0 0,.slice none 0 0,.slice none 0 0,.slice none 0 0,.slice none 0 0,.slice none 0 0,.slice none 0 0,.slice none 0 0,.slice none 0 0,.int .i64 (h:Int),.slice none 0 0,.int .i64 0,.bool s.over,.slice B m d,.int .i64 s.rat,.int .i64 s.off]
def Fx:Array Value:=#[.slice none 0 0,.int .i64 0,.int .i64 0,.int .i64 0,.int .i64 0,.int .i64 0,.int .i64 0,.int .i64 0,.int .i64 0,.int .i64 0,.slice none 0 0,.slice none 0 0,.slice none 0 0,.slice none 0 0,.slice none 0 0,.slice none 0 0,.slice none 0 0,.slice none 0 0,.slice none 0 0,.slice none 0 0,.slice none 0 0,.slice none 0 0,.slice none 0 0,.slice none 0 0,.slice none 0 0,.slice none 0 0,.slice none 0 0,.slice none 0 0,.slice none 0 0,.slice none 0 0,.slice none 0 0,.slice none 0 0,.slice none 0 0,.slice none 0 0,.slice none 0 0,.slice none 0 0,.slice none 0 0,.int .i64 0,.slice none 0 0,.int .i64 0,.bool false,.slice none 0 0,.int .i64 0,.int .i64 0]
structure Ed (w:World)(b:Nat)(cs:Array Value)(s:PS):Prop where
 size:cs.size=44
 text:∃v,cs[0]? = some v∧Bg w b v s.tx
 at_:cs[1]? = some (.int .i64 s.at_)
 mode:cs[2]? = some (.int .i64 s.mode)
 part:cs[3]? = some (.int .i64 s.part.first)∧cs[4]? = some (.int .i64 s.part.reg)∧cs[5]? = some (.int .i64 s.part.op)∧cs[6]? = some (.int .i64 s.part.second)∧cs[7]? = some (.int .i64 s.part.wait)
 find:cs[8]? = some (.int .i64 s.fk)∧cs[9]? = some (.int .i64 s.fa)
 regs:∀i,i<27→∃v,cs[10+i]? = some v∧Bg w b v (s.rl i)
 past:cs[37]? = some (.int .i64 (s.past.length:Int))
 lines:∃A n c,cs[38]? = some (.slice A n c)∧G6 w b A n c s.hi.lines
 where_:cs[39]? = some (.int .i64 s.hi.at_)
 over:cs[40]? = some (.bool s.over)
 row:∃v,cs[41]? = some v∧Bg w b v s.row
 rat:cs[42]? = some (.int .i64 s.rat)
 off:cs[43]? = some (.int .i64 s.off)
theorem iJ (A:Option Addr)(n c:Nat)(B:Option Addr)(m d h:Nat)(s:PS):(Hu A n c B m d h s).all (·.oneCell')=true:=by unfold Hu;simp[Bt]
theorem Ua {base e z n c g t:Nat}(h:Ay w base e z A n c xs)(hb:An w g t cs)(hne:t≠e)(us:Array Value):Ay (w.setRow g us) base e z A n c xs:=
 Ay.same h fun k hk=>Go.setRow_other w g k us (fun e=>Mh h hb hne (by rw[hk,e]))
theorem lX (v:SV)(s:PS)(i:Nat)(hi:i<27):(Ll v s)[3+i]? = some (v.r i):=by
 exact I8
theorem qL (v:SV)(s:PS)(j:Nat)(x:Value)(h:(L9 v.r)[j]? = some x):(Ll v s)[3+j]? = some x:=by
 have hj:j<27:=by
  rcases Nat.lt_or_ge j 27 with h1|h1
  ·exact h1
  ·rw[Array.getElem?_eq_none (show(L9 v.r).size≤j from h1)]at h;cases h
 rw[Nd v.r j hj]at h;rw[lX v s j hj];exact h
theorem Ur {i n c:Nat}(hi:i<27)(hv:cs[i]? = some (.slice A n c))(u:World):
 (Instr.index 40 (.agg cs) (.int .i64 (i:Int))).run Tryz.prog u=.ok (.slice A n c) u:=by
 have hu:Tryz.prog.underlying 40=some (.array 27 27):=by kernel_rfl
 have hz:∀u,(sizeOf 27).run Tryz.prog u=.ok 1 u:=fun u=>by kernel_rfl
 have h1:(0:Int)≤(i:Int)∧(i:Int)<(27:Nat):=by omega
 have h2:(i:Int)<27:=by omega
 have hg:∀u,(isAgg 27).run Tryz.prog u=.ok false u:=fun u=>by kernel_rfl
 have hp:∀u,(part 27 cs i).run Tryz.prog u=.ok (.slice A n c) u:=fun u=>by
  unfold part;simp[hg,hv]
 simp[Instr.index,run_underlying hu,asIntOf,h1,h2,hz,hp,hi,hv,go_sem]
theorem iI (A:Option Addr)(n c:Nat)(B:Option Addr)(m d h:Nat)(s:PS)(i:Nat)(hi:i<27):(Hu A n c B m d h s)[10+i]? = some (.slice none 0 0):=by
 exact I8
theorem Q0 {b g i t:Nat}{y u:Value}(h:Bg w b y l)(hb:An w g t cs)(hne:t≠3):Bg (w.setCell ⟨g,i,none⟩ u) b y l:=by
 obtain⟨A,n,c,rfl,h1,h2,h3⟩:=h;exact⟨A,n,c,rfl,eI h1 hb hne i u,h2,h3⟩
theorem qM {b m g:Nat}{y:Value}(h:Bg w b y l)(hs:w.heap.size≤m)(hg:y.ownBlock≠some g)(hl:∀k,k<m→k≠g→w'.heap[k]? = w.heap[k]?):Bg w' b y l:=by
 obtain⟨A,n,c,rfl,h1,h2,h3⟩:=h;exact⟨A,n,c,rfl,Ay.same h1 fun k hk=>hl k (Nat.lt_of_lt_of_le (Ay.blk h1 k hk).2 hs) (fun e=>hg (e▸hk)),h2,h3⟩
theorem aT {b g t:Nat}{y:Value}(h:Bg w b y l)(hb:An w g t cs)(hne:t≠3):y.ownBlock≠some g:=by
 obtain⟨A,n,c,rfl,h1,_⟩:=h;exact Mh h1 hb hne
theorem Ed.one (h:Ed w b cs s):cs.all (·.oneCell')=true:=by
 have hr:∀{v:Value} {l:List Int},Bg w b v l→v.oneCell'=true:=fun⟨_,_,_,e,_⟩=>by rw[e];rfl
 rw[Array.all_eq_true];intro j hj;rw[h.size]at hj;have key:∀{x:Value},cs[j]? = some x→x.oneCell'=true→(cs[j]).oneCell'=true:=fun {x} h1 h2=>by
  rw[Array.getElem?_eq_getElem (by rw[h.size];exact hj)]at h1
  injection h1 with h1;rw[h1];exact h2
 by_cases hmid:10≤j∧j<37
 ·obtain⟨v,h1,h2⟩:=h.regs (j-10) (by omega)
  rw[show 10+(j-10)=j by omega]at h1
  exact key h1 (hr h2)
 ·obtain⟨v0,a0,b0⟩:=h.text
  obtain⟨v1,a1,b1⟩:=h.row;obtain⟨A,n,c,a2,_⟩:=h.lines;obtain⟨p3,p4,p5,p6,p7⟩:=h.part;obtain⟨f8,f9⟩:=h.find;have hc:j=0∨j=1∨j=2∨j=3∨j=4∨j=5∨j=6∨j=7∨j=8∨j=9∨j=37∨j=38∨j=39∨j=40∨j=41∨j=42∨j=43:=by omega
  rcases hc with rfl|rfl|rfl|rfl|rfl|rfl|rfl|rfl|rfl|rfl|rfl|rfl|rfl|rfl|rfl|rfl|rfl
  ·exact key a0 (hr b0)
  ·exact key h.at_ rfl
  ·exact key h.mode rfl
  ·exact key p3 rfl
  ·exact key p4 rfl
  ·exact key p5 rfl
  ·exact key p6 rfl
  ·exact key p7 rfl
  ·exact key f8 rfl
  ·exact key f9 rfl
  ·exact key h.past rfl
  ·exact key a2 rfl
  ·exact key h.where_ rfl
  ·exact key h.over rfl
  ·exact key a1 (hr b1)
  ·exact key h.rat rfl
  ·exact key h.off rfl
theorem Nf (h:cs.size=44):(Tryz.prog.info? 45).map (·.size)=some cs.size:=by rw[h];kernel_rfl
theorem Ed.setRow {b g:Nat}(h:Ed w b cs s)(hg:g<b)(us:Array Value):Ed (w.setRow g us) b cs s:=
 {
  h with
  text:=let ⟨v,h1,h2⟩:=h.text;⟨v,h1,h2.setRow hg us⟩
  regs:=fun i hi=>let ⟨v,h1,h2⟩:=h.regs i hi;⟨v,h1,h2.setRow hg us⟩
  lines:=let ⟨A,n,c,h1,h2⟩:=h.lines;⟨A,n,c,h1,h2.setRow hg us⟩
  row:=let ⟨v,h1,h2⟩:=h.row;⟨v,h1,h2.setRow hg us⟩ }
theorem Ed.lower {b b':Nat}(h:Ed w b cs s)(hb:b'≤b):Ed w b' cs s:=
 {
  h with
  text:=let ⟨v,h1,h2⟩:=h.text;⟨v,h1,h2.lower hb⟩
  regs:=fun i hi=>let ⟨v,h1,h2⟩:=h.regs i hi;⟨v,h1,h2.lower hb⟩
  lines:=let ⟨A,n,c,h1,h2⟩:=h.lines;⟨A,n,c,h1,h2.lower hb⟩
  row:=let ⟨v,h1,h2⟩:=h.row;⟨v,h1,h2.lower hb⟩ }
theorem Ed.ext (h:Ed w b cs s)(he:Al w w'):Ed w' b cs s:=
 {
  h with
  text:=let ⟨v,h1,h2⟩:=h.text;⟨v,h1,h2.ext he⟩
  regs:=fun i hi=>let ⟨v,h1,h2⟩:=h.regs i hi;⟨v,h1,h2.ext he⟩
  lines:=let ⟨A,n,c,h1,h2⟩:=h.lines;⟨A,n,c,h1,h2.ext he⟩
  row:=let ⟨v,h1,h2⟩:=h.row;⟨v,h1,h2.ext he⟩ }
theorem Tm {p:Nat}{v:SV}(h:Db w col p v s)(hl:s.tx.length≤200)(hh:s.hi.lines.length≤1000):
 Calls Tryz.prog 7 #[.pointer (some ⟨p,0,none⟩)] w fun e w'=>∃cs,e=.returned (.agg cs)∧Ed w' w.heap.size cs s∧Al w w':=by
 obtain⟨i0,hi,hz0,hz1,hz2⟩:=info_parts Lp;have hd:=h.ses.dat.here;obtain⟨A8,n8,c8,xs8,hv8,_,hn8,_⟩:=hd.past;obtain⟨A9,n9,k9,hv9,ho9,hc9,hz9⟩:=hd.row;have hx:=Al.alloc w (.cells Fx 45);have hb2:=An.new w 45 Fx;have HLN:Hid (∀wq,Al w wq→Calls Tryz.prog 15 #[.pointer (some ⟨p,0,none⟩)] wq fun e w'=>∃u,e=.returned u∧(∃A n c,u=.agg #[.slice A n c,.int .i64 s.at_]∧Av w' wq.heap.size A n c s.tx)∧Al wq w'):=
  A4 fun wq he=>Su (h.ext he) (by omega)
 have HCL:Hid (∀wq,Al w wq→Calls Tryz.prog 16 #[.slice A9 n9 k9] wq fun e w'=>∃u,e=.returned u∧(∃B d,u=.slice B n9 d∧Av w' wq.heap.size B n9 d s.row)∧Al wq w'):=
  A4 fun wq he=>(Cy (ho9.ints.ext he) hc9 hz9).mono fun e w' ⟨B,d,h1,h2,_,h4⟩=>⟨_,h1,⟨B,d,rfl,h2⟩,h4⟩
 have HP:=A4 (fun wq (he:Al w wq)=>h.ses.blk.ext he)
 have HV:=A4 (Be hv8 hv9);have H:=A4 h;clear h hd hv8 hv9 ho9 hc9;obtain⟨Wa,hWa⟩:∃x,x=w.alloc (.cells Fx 45):=⟨_,rfl⟩;rw[←hWa]at hx hb2;have HWS:Hid (w.heap.size+1=Wa.drew.heap.size):=A4 (by rw[hWa];simp[World.drew])
 have HWA:=A4 hWa;clear hWa;go_enter Tryz.func7,Tryz.ntmps7
 go_upto_region 1 with fail
 change Code.wp _ _ _ _ (w.alloc (.cells Fx 45));rw[←HWA.out];have hxd:=hx.to_drew;have hcb:An Wa.drew w.heap.size 45 Fx:=hb2;clear HWA;refine wp_region_held_drew (S:=fun w'=>Al w w'∧An w' w.heap.size 45 Fx) (by kernel_rfl) ⟨hxd,hcb⟩ (fun hS=>?_)
 clear hx hb2 hxd hcb;refine B8 (i:=0) (v:=(.pointer (some ⟨p,0,none⟩))) rfl hS ?_
 refine B8 (i:=2) (v:=(.pointer (some ⟨p,0,none⟩))) rfl hS ?_
 refine B8 (i:=3) (v:=(.pointer (some ⟨p,0,none⟩))) rfl hS ?_
 refine B8 (i:=4) (v:=(.pointer (some ⟨p,2,none⟩))) rfl hS ?_
 refine F4 (i:=5) (v:=(.int .i64 s.mode)) rfl (fun w' hSw=>by have e0:w'.cell? ⟨p,2,none⟩=some (.int .i64 s.mode):=(HP.out w' hSw.1).cell 2;go_simp) hS ?_
 refine B8 (i:=6) (v:=(.pointer (some ⟨p,0,none⟩))) rfl hS ?_
 refine B8 (i:=7) (v:=(.pointer (some ⟨p,0,none⟩))) rfl hS ?_
 refine B8 (i:=8) (v:=(.pointer (some ⟨p,32,none⟩))) rfl hS ?_
 refine F4 (i:=9) (v:=(.agg #[.int .i64 s.part.first,.int .i64 s.part.reg,.int .i64 s.part.op,.int .i64 s.part.second,.int .i64 s.part.wait])) rfl (fun w' hSw=>by exact De 36 (.tmp 16) rfl p 32 5 rfl (HP.out _ hSw.1) (by kernel_rfl) Tryz.underlying36 rfl (by kernel_rfl)) hS ?_
 refine B8 (i:=10) (v:=(.pointer (some ⟨p,0,none⟩))) rfl hS ?_
 refine B8 (i:=11) (v:=(.pointer (some ⟨p,0,none⟩))) rfl hS ?_
 refine B8 (i:=12) (v:=(.pointer (some ⟨p,30,none⟩))) rfl hS ?_
 refine F4 (i:=13) (v:=(.agg #[.int .i64 s.fk,.int .i64 s.fa])) rfl (fun w' hSw=>by exact De 38 (.tmp 20) rfl p 30 2 rfl (HP.out _ hSw.1) (by kernel_rfl) Tryz.underlying38 rfl (by kernel_rfl)) hS ?_
 refine B8 (i:=14) (v:=(.pointer (some ⟨p,0,none⟩))) rfl hS ?_
 refine B8 (i:=15) (v:=(.pointer (some ⟨p,0,none⟩))) rfl hS ?_
 refine B8 (i:=16) (v:=(.pointer (some ⟨p,43,none⟩))) rfl hS ?_
 refine B8 (i:=17) (v:=(.pointer (some ⟨p,43,none⟩))) rfl hS ?_
 refine F4 (i:=18) (v:=(.slice A8 n8 c8)) rfl (fun w' hSw=>by have e0:w'.cell? ⟨p,43,none⟩=some (.slice A8 n8 c8):=((HP.out w' hSw.1).cell 43).trans (congrArg some HV.out.1);go_simp) hS ?_
 refine B8 (i:=19) (v:=(.int .i64 (n8:Int))) rfl hS ?_
 refine B8 (i:=20) (v:=(.pointer (some ⟨p,0,none⟩))) rfl hS ?_
 refine B8 (i:=21) (v:=(.pointer (some ⟨p,0,none⟩))) rfl hS ?_
 refine B8 (i:=22) (v:=(.pointer (some ⟨p,55,none⟩))) rfl hS ?_
 refine F4 (i:=23) (v:=(.bool s.over)) rfl (fun w' hSw=>by have e0:w'.cell? ⟨p,55,none⟩=some (.bool s.over):=(HP.out w' hSw.1).cell 55;go_simp) hS ?_
 refine B8 (i:=24) (v:=(.pointer (some ⟨p,0,none⟩))) rfl hS ?_
 refine B8 (i:=25) (v:=(.pointer (some ⟨p,0,none⟩))) rfl hS ?_
 refine B8 (i:=26) (v:=(.pointer (some ⟨p,53,none⟩))) rfl hS ?_
 refine B8 (i:=27) (v:=(.pointer (some ⟨p,53,none⟩))) rfl hS ?_
 refine F4 (i:=28) (v:=(.slice A9 n9 k9)) rfl (fun w' hSw=>by have e0:w'.cell? ⟨p,53,none⟩=some (.slice A9 n9 k9):=((HP.out w' hSw.1).cell 53).trans (congrArg some HV.out.2);go_simp) hS ?_
 refine B8 (i:=30) (v:=(.pointer (some ⟨p,0,none⟩))) rfl hS ?_
 refine B8 (i:=31) (v:=(.pointer (some ⟨p,0,none⟩))) rfl hS ?_
 refine B8 (i:=32) (v:=(.pointer (some ⟨p,53,none⟩))) rfl hS ?_
 refine B8 (i:=33) (v:=(.pointer (some ⟨p,54,none⟩))) rfl hS ?_
 refine F4 (i:=34) (v:=(.int .i64 s.rat)) rfl (fun w' hSw=>by have e0:w'.cell? ⟨p,54,none⟩=some (.int .i64 s.rat):=(HP.out w' hSw.1).cell 54;go_simp) hS ?_
 refine B8 (i:=36) (v:=(.pointer (some ⟨p,0,none⟩))) rfl hS ?_
 refine B8 (i:=37) (v:=(.pointer (some ⟨p,0,none⟩))) rfl hS ?_
 refine B8 (i:=38) (v:=(.pointer (some ⟨p,51,none⟩))) rfl hS ?_
 refine F4 (i:=39) (v:=(.int .i64 s.off)) rfl (fun w' hSw=>by have e0:w'.cell? ⟨p,51,none⟩=some (.int .i64 s.off):=(HP.out w' hSw.1).cell 51;go_simp) hS ?_
 generalize Wa.drew=cur at*
 iterate 3
  all_goals (first|refine wpAnyH_ready (rs:=[1,41]) (by decide +kernel) (by simp) (Ah rfl (fun K hK=>?_) (Ah rfl (fun K hK=>?_) Ak))|refine wpAnyH_ready (rs:=[29,41]) (by decide +kernel) (by simp) (Ah rfl (fun K hK=>?_) (Ah rfl (fun K hK=>?_) Ak))|refine wpAnyH_ready (rs:=[1]) (by decide +kernel) (by simp) (Ah rfl (fun K hK=>?_) Ak)|refine wpAnyH_ready (rs:=[29]) (by decide +kernel) (by simp) (Ah rfl (fun K hK=>?_) Ak)|refine wpAnyH_ready (rs:=[41]) (by decide +kernel) (by simp) (Ah rfl (fun K hK=>?_) Ak))
  all_goals (first
   |(
    refine C9 rfl 16 #[.slice A9 n9 k9] rfl (by kernel_rfl) (fun u w'=>∃B d,u=.slice B n9 d∧Av w' (w.heap.size+1) B n9 d s.row) ((HCL.out _ hS.1).mono fun e w' ⟨u,h1,⟨B,d,h2,h3⟩,h4⟩=>⟨u,h1,⟨B,d,h2,h3.lower hS.2.lt⟩,h4⟩) ?_
    rintro u w3 ⟨B,d,rfl,hR⟩ hE;refine hK.out _ _ ⟨hS.1.trans hE,hS.2.ext hE⟩ (fun hS'=>?_)
    clear hK K;replace hoL:=Av.ext hoL hE
    try replace hb5:=An.ext hb5 hE
    replace hS:=hS';clear hS' hE
    try simp only[Ab,A7,Aa,Am,A6,Ac,Ad]
    refine B8 (i:=35) (v:=(.agg #[.slice B n9 d,.int .i64 s.rat])) rfl hS ?_
    refine F4 (i:=40) (v:=(.agg (Hu A n c B n9 d n8 s))) rfl (fun w' hSw=>by exact dF 45 _ rfl (Hu A n c B n9 d n8 s) (by kernel_rfl)) hS ?_
    skip)
   |(
    refine C9 rfl 15 #[.pointer (some ⟨p,0,none⟩)] rfl (by kernel_rfl) (fun u w'=>∃A n c,u=.agg #[.slice A n c,.int .i64 s.at_]∧Av w' (w.heap.size+1) A n c s.tx) ((HLN.out _ hS.1).mono fun e w' ⟨u,h1,⟨B,n,d,h2,h3⟩,h4⟩=>⟨u,h1,⟨B,n,d,h2,h3.lower hS.2.lt⟩,h4⟩) ?_
    rintro u w2 ⟨A,n,c,rfl,hoL⟩ hE;refine hK.out _ _ ⟨hS.1.trans hE,hS.2.ext hE⟩ (fun hS'=>?_)
    clear hK K
    try replace hb5:=An.ext hb5 hE
    replace hS:=hS';clear hS' hE
    try simp only[Ab,A7,Aa,Am,A6,Ac,Ad])
   |(
    go_simp
    refine hK.out _ _ ⟨hS.1.to_alloc (.cells Fx 45),hS.2.ext (Al.alloc _ _)⟩ (fun hS'=>?_)
    clear hK K;have hE:=L2 hS'.1
    try replace hoL:=Av.ext hoL hE
    try replace hR:=Av.ext hR hE
    obtain⟨g5,hg5,hb5⟩:=tX hS'.1;have hz5:=hS.1.hsize;have hn5:=hS.2.lt;rw[←hg5]at hz5 hn5 ⊢;clear hg5;replace hS:=hS';clear hS' hE;generalize World.alloc _ _=nx at*
    try simp only[Ab,A7,Aa,Am,A6,Ac,Ad]))
 all_goals
  refine wpAnyH_ready (rs:=[42]) (by decide +kernel) (by simp) (Ah rfl (fun K hK=>?_) Ak)
  refine Bv rfl 45 (.tmp 3) (.tmp 48) rfl g5 0 (Hu A n c B n9 d n8 s) rfl rfl 45 Fx hb5 (by kernel_rfl) (by show 0+44≤44;decide) (iJ _ _ _ _ _ _ _ _) ?_
  rw[P9 (show(Hu A n c B n9 d n8 s).size=Fx.size from rfl)]
  have hn5':g5≠w.heap.size:=by omega
  have hS':_∧_:=⟨hS.1.setRow hz5 (Hu A n c B n9 d n8 s),hS.2.setRow_other (Hu A n c B n9 d n8 s) (fun e=>hn5' e.symm)⟩
  have hoL':Av _ (w.heap.size+1) A n c s.tx:=Ua hoL hb5 (by decide) (Hu A n c B n9 d n8 s)
  have hR':Av _ (w.heap.size+1) B n9 d s.row:=Ua hR hb5 (by decide) (Hu A n c B n9 d n8 s)
  have hb5':=hb5.setRow (Hu A n c B n9 d n8 s);clear hoL hR hb5 hS;generalize World.setRow _ _ _=w5 at*;refine hK.out _ _ hS' (fun hS=>?_)
  clear hK K hS';refine wpAnyH_done (by kernel_rfl) ?_ _
  have hlt5:=hb5'.lt;have HS5:=A4 hS;have HB5:=A4 hb5';have HO5:Hid (Bg w5 (w.heap.size+1) (.slice A n c) s.tx∧Bg w5 (w.heap.size+1) (.slice B n9 d) s.row):=A4 ⟨⟨A,n,c,rfl,hoL',Ay.nocap' hoL',by have:=hoL'.ints.len;omega⟩,B,n9,d,rfl,hR',Ay.nocap' hR',hz9⟩
  clear hS hb5' hoL' hR';go_upto_region 2 with fail
  go_upto_region 3 with(refine Mw rfl 40 (.tmp 51) rfl p 3 rfl 65 (Ll v s) (L9 v.r) (0,0) _ (HP.out _ HS5.out.1) (qL v s) Tryz.underlying40 rfl (by kernel_rfl) ?_)
  go_loopw [53] (fun s53 wx=>∃(i:Nat) (a:Array Value),i≤27∧s53=.int .i64 i∧Hid (a.size=44∧(∀j,j<i→∃x,a[10+j]? = some x∧Bg wx (w.heap.size+1) x (s.rl j))∧(∀j,(j<10∨10+i≤j)→a[j]? = (Hu A n c B n9 d n8 s)[j]?))∧Hid (An wx g5 45 a)∧Hid (An wx w.heap.size 45 Fx)∧Hid (Al w wx)∧Hid (Bg wx (w.heap.size+1) (.slice A n c) s.tx∧Bg wx (w.heap.size+1) (.slice B n9 d) s.row)) (fun s53 _=>27-(intOf s53).toNat)
  case atStart=>exact⟨0,Hu A n c B n9 d n8 s,by omega,rfl,A4 ⟨rfl,fun j hj=>absurd hj (Nat.not_lt_zero j),fun _ _=>rfl⟩,HB5,A4 HS5.out.2,A4 HS5.out.1,HO5⟩
  case round=>
   clear HB5 HS5 HO5;obtain⟨i,a,hi7,rfl,Ha,Hb1,Hb2,He,HO⟩:=hrel;by_cases hlt:i<27
   ·obtain⟨x,hx1,A5,n5,c5,rfl,hI,hA5,hn55⟩:=(H.out.ext He.out).ses.dat.here.regs.2 i hlt
    have hix:=Ur hlt hx1;have HC:=A4 (Cy hI.ints hA5 hn55);clear hx1 hI;go_wp2_with fail
    refine HC.out.mono ?_
    rintro e w2 ⟨B5,d5,rfl,hO,hB,he2⟩;have Hb1':=A4 (An.ext Hb1.out he2);have Hb2':=A4 (An.ext Hb2.out he2);have HON:Hid (Bg w2 (w.heap.size+1) (.slice B5 n5 d5) (s.rl i)):=A4 ⟨B5,n5,d5,rfl,Ay.lower hO Hb2.out.lt,hB,hn55⟩;have He2:=A4 (He.out.trans he2);have Ha2:Hid (a.size=44∧(∀j,j<i→∃x,a[10+j]? = some x∧Bg w2 (w.heap.size+1) x (s.rl j))∧(∀j,(j<10∨10+i≤j)→a[j]? = (Hu A n c B n9 d n8 s)[j]?)):=A4 ⟨Ha.out.1,fun j hj=>by obtain⟨x,h1,h2⟩:=Ha.out.2.1 j hj;exact⟨x,h1,h2.ext he2⟩,Ha.out.2.2⟩
    have HO2:Hid (Bg w2 (w.heap.size+1) (.slice A n c) s.tx∧Bg w2 (w.heap.size+1) (.slice B n9 d) s.row):=A4 ⟨HO.out.1.ext he2,HO.out.2.ext he2⟩;have hfr:=Hb1'.out.frozen (10+i);have hc2:w2.cell? ⟨g5,10+i,none⟩=some (.slice none 0 0):=by rw[Hb1'.out.cell (10+i),Ha2.out.2.2 (10+i) (.inr (Ai _)),iI _ _ _ _ _ _ _ _ i hlt]
    clear HC hO hB he2 Ha Hb1 Hb2 He hA5 hn55 HO hix;go_wp2_with fail
    go_roundw
    case rel=>
     refine⟨i+1,a.setIfInBounds (10+i) (.slice B5 n5 d5),by omega,by go_num,A4 ⟨by simpa using Ha2.out.1,fun j hj=>?_,fun j hj=>?_⟩,A4 (Hb1'.out.set_ (10+i) _),?_,A4 (He2.out.setCell hz5 _),A4 ⟨Q0 HO2.out.1 Hb1'.out (by decide),Q0 HO2.out.2 Hb1'.out (by decide)⟩⟩
     ·by_cases hji:j=i
      ·subst hji
       exact⟨_,by rw[J0d,if_pos (by rw[Ha2.out.1];omega)],Q0 HON.out Hb1'.out (by decide)⟩
      ·obtain⟨x,h1,h2⟩:=Ha2.out.2.1 j (by omega)
       exact⟨x,by rw[D1 (by omega)];exact h1,Q0 h2 Hb1'.out (by decide)⟩
     ·exact I112
     ·exact A4 (Bh Hb2'.out (by omega) (10+i) _)
    case measure=>simp[intOf];omega
   ·obtain rfl:i=27:=by omega
    obtain⟨AL,nL,cL,SL,snL,scL,PL,pnL,pcL,eL,hLn,_⟩:=(H.out.ext He.out).ses.dat.here.his;have eh0:v.h0=.slice AL nL cL:=by
     have:=congrArg (fun x=>match x with|Value.agg a=>a[0]? |_=>none) eL
     simp only[Jz,Ce]at this;exact Option.some.inj this
    have HL:=A4 hLn.lns;have hnl:s.hi.lines.length=nL:=hLn.lns.len;have d37:wr.cell? ⟨p,37,none⟩=some (.slice AL nL cL):=(((HP.out wr He.out).cell 37)).trans (congrArg some eh0);have HN:=A4 hnl;have HEL:Hid (Value.agg (Jz v s.hi)=_):=A4 eL;have hnL:nL≤1000:=by omega
    clear eL hLn eh0 hnl;go_wp2_with fail
    obtain⟨w6,hw6⟩:∃x,x=wr:=⟨_,rfl⟩;have HLow0:Hid (∀k,k<wr.heap.size→k≠g5→wr.heap[k]? = wr.heap[k]?):=A4 fun _ _ _=>rfl
    have hg56:g5<wr.heap.size:=Hb1.out.lt;have HW6:Hid (a.size=44∧(∀j,j<27→∃x,a[10+j]? = some x∧Bg wr (w.heap.size+1) x (s.rl j)∧x.ownBlock≠some g5)∧(∀j,(j<10∨10+27≤j)→a[j]? = (Hu A n c B n9 d n8 s)[j]?)∧(Bg wr (w.heap.size+1) (.slice A n c) s.tx∧(Aj A n c).ownBlock≠some g5)∧(Bg wr (w.heap.size+1) (.slice B n9 d) s.row∧(Aj B n9 d).ownBlock≠some g5)∧An wr w.heap.size 45 Fx):=
     A4 ⟨Ha.out.1,fun j hj=>by obtain⟨x,h1,h2⟩:=Ha.out.2.1 j hj;exact⟨x,h1,h2,aT h2 Hb1.out (by decide)⟩,Ha.out.2.2,⟨HO.out.1,aT HO.out.1 Hb1.out (by decide)⟩,⟨HO.out.2,aT HO.out.2 Hb1.out (by decide)⟩,Hb2.out⟩
    have Hx0:=He;have HA0:Hid (a.size=44∧a[38]? = some (.slice none 0 0)∧∀j,j≠38→a[j]? = a[j]?):=A4 ⟨Ha.out.1,Ha.out.2.2 38 (.inr (by omega)),fun _ _=>rfl⟩
    have hb60:wr.heap.size≤wr.heap.size:=Ai _;rw[←hw6]at HW6;have hrw:wr.heap.size=w6.heap.size:=by rw[hw6]
    rw[←hw6]at HLow0;have HLow1:Hid (∀k,k<w6.heap.size→k≠g5→wr.heap[k]? = w6.heap[k]?):=A4 fun k _ _=>by rw[hw6]
    rw[hrw]at hg56;have hb61:w6.heap.size≤wr.heap.size:=by omega
    have hzw6:w.heap.size≤w6.heap.size:=by have:=He.out.hsize;omega
    clear hw6 HLow0 hb60 hrw Ha HO Hb2 He hi7 hlt hlt5 hn5;go_loopw [69] (fun s69 wx=>∃(k:Nat) (O:Option Addr) (e:Nat) (a':Array Value),k≤nL∧s69=.int .i64 k∧Hid (a'.size=44∧a'[38]? = some (.slice O k e)∧∀j,j≠38→a'[j]? = a[j]?)∧Hid (An wx g5 45 a')∧Hid (∀k,k<w6.heap.size→k≠g5→wx.heap[k]? = w6.heap[k]?)∧Hid (Al w wx)∧Hid (G6 wx w6.heap.size O k e (s.hi.lines.take k))∧w6.heap.size≤wx.heap.size) (fun s69 _=>nL-(intOf s69).toNat)
    case atStart=>exact⟨0,none,0,a,by omega,rfl,HA0,Hb1,HLow1,Hx0,A4 (by simpa using G6.nil _ _),hb61⟩
    case round=>
     clear HA0 Hb1 HLow1 Hx0 hb61 HL d37;obtain⟨k,O,e,a',hk,rfl,HA,Hb1,HLow,Hx,HO,hsz⟩:=hrel;by_cases hlt:k<nL
     ·obtain⟨AL',nL',cL',_,_,_,_,_,_,eL,hLn,_⟩:=(H.out.ext Hx.out).ses.dat.here.his
      have hLn':V7 wr AL nL cL s.hi.lines:=by
       have:=congrArg (fun x=>match x with|Value.agg a=>a[0]? |_=>none) (HEL.out.symm.trans eL)
       simp only[Ce]at this;injection this with this;injection this with e1 e2 e3;subst e1 e2 e3;exact hLn.lns
      obtain⟨ad,x,rfl,hc,B4,m,q,rfl,hI,hB,hm⟩:=hLn'.at_ hlt;obtain⟨xs,hO1,hO2,_⟩:=HO.out;have HC:=A4 (Cy (hI.ext (Al.drew wr)) hB hm);have a1:wr.drew.cell? ⟨g5,38,none⟩=some (.slice O k e):=(Hb1.out.cell 38).trans HA.out.2.1;have HO1:=A4 hO1;have HO2:=A4 hO2;clear hI hO1 hO2 HO hLn eL hLn';go_upto_region 10 with fail
      refine Gm (S:=fun w'=>w'.cell? ⟨g5,38,none⟩=some (.slice O k e)) 5 (by kernel_rfl) a1 (fun hS=>?_)
      refine Ba (i:=0) (v:=(.pointer (some ⟨g5,38,none⟩))) rfl (by kernel_rfl) (by kernel_rfl) (by kernel_rfl) (by decide) (fun _ _ _ h=>h) (Or.inl ⟨by rfl,by(intro w' hSw;go_simp)⟩) (fun hl=>by first|exact hS|exact absurd hl (by decide)) ?_
      try simp only[Ab,A7,Aa,Am,A6,Ac,Ad]
      refine Ew (i:=1) (v:=(.slice O k e)) rfl (by kernel_rfl) (by kernel_rfl) (by kernel_rfl) (by kernel_rfl) (by decide) (by kernel_rfl) (fun _ _ _ h=>h) (Or.inl ⟨by rfl,by(intro w' hSw;go_simp)⟩) hS ?_
      try simp only[Ab,A7,Aa,Am,A6,Ac,Ad]
      refine Ba (i:=2) (v:=(.slice B4 m q)) rfl (by kernel_rfl) (by kernel_rfl) (by kernel_rfl) (by decide) (fun _ _ _ h=>h) (Or.inl ⟨by rfl,by(intro w' hSw;go_simp)⟩) (fun hl=>by first|exact hS|exact absurd hl (by decide)) ?_
      try simp only[Ab,A7,Aa,Am,A6,Ac,Ad]
      refine Gt (i:=3) (by decide +kernel) rfl (fun K hK=>?_)
      refine J1 rfl 16 #[.slice B4 m q] (by kernel_rfl) (fun v w'=>∃B2 d2,v=.slice B2 m d2∧Av w' wr.drew.heap.size B2 m d2 (gL s.hi.lines k)∧(B2=none→d2=0)∧Al wr.drew w') (HC.out.mono fun e w' ⟨B2,d2,h1,h2⟩=>⟨_,h1,B2,d2,rfl,h2⟩) ?_
      rintro v w2 ⟨B2,q2,rfl,hoc,hnc,hec⟩;have b1:=hec.cell a1;have b2:(w2.alloc (.cells #[.slice B2 m q2] 27)).cell? ⟨g5,38,none⟩=some (.slice O k e):=Al.cell (Al.alloc _ _) b1;refine hK.out _ _ b1 (fun hS=>?_)
      clear hK K
      try simp only[Ab,A7,Aa,Am,A6,Ac,Ad]
      refine Gt (i:=4) (by decide +kernel) rfl (fun K hK=>?_)
      go_simp
      refine hK.out _ _ b2 (fun _=>?_)
      clear hK K
      try simp only[Ab,A7,Aa,Am,A6,Ac,Ad]
      refine Ex (i:=5) (by decide +kernel) rfl (by decide +kernel) (fun K hK=>?_)
      refine Mn rfl (.tmp 74) (.tmp 77) 41 rfl w w6.heap.size 27 i0 _ 1 24 Tryz.underlying41 hi hz0 hz1 hz2 rfl (by decide) O k e xs rfl (Ay.ext HO1.out ((Al.drew wr).trans hec)) #[.slice B2 m q2] rfl (by simp[Bt]) rfl (by unfold maxLen;omega) (by omega) (Hx.out.trans ((Al.drew wr).trans hec)) hzw6 (Ap hsz (Ap (Al.hsize (Al.drew wr)) hec.hsize)) ?_
      intro O3 d3 w3 hO3 hgr hor hx3;have hb3:=An.grown (An.ext Hb1.out ((Al.drew wr).trans hec)) hgr (fun e=>by have:=(Ay.blk HO1.out _ e.symm).1;omega)
      have c0:w3.cell? ⟨g5,38,none⟩=some (.slice O k e):=(hb3.cell 38).trans HA.out.2.1;have f0:=hb3.frozen 38;refine hK.out _ _ ?_
      clear hK K
      try simp only[Ab,A7,Aa,Am,A6,Ac,Ad]
      refine Ba (i:=6) (v:=(.pointer (some ⟨g5,38,none⟩))) rfl (by kernel_rfl) (by kernel_rfl) (by kernel_rfl) (by decide) (fun _ _ _ h=>h) (Or.inl ⟨by rfl,by(intro w' hSw;go_simp)⟩) (fun hl=>by first|exact hS|exact absurd hl (by decide)) ?_
      try simp only[Ab,A7,Aa,Am,A6,Ac,Ad]
      refine Ex (i:=7) (by decide +kernel) rfl (by decide +kernel) (fun K hK=>?_)
      go_simp
      refine hK.out _ _ ?_
      clear hK K;refine Kw (by kernel_rfl) ?_ _
      have he2:=(Al.drew wr).trans hec;have hz2':wr.heap.size≤w2.heap.size:=he2.hsize;have hOb:∀g,(Aj O k e).ownBlock=some g→g<wr.heap.size:=fun g hg=>(Ay.blk HO1.out g hg).2
      have hOl:∀g,(Aj O k e).ownBlock=some g→w6.heap.size≤g:=fun g hg=>(Ay.blk HO1.out g hg).1
      have hn0:∀g,(Aj B2 m q2).ownBlock=some g→wr.heap.size≤g∧g<w2.heap.size:=fun g hg=>Ay.blk hoc g hg
      have hrow:(Aj B2 m q2).ownBlock=none∨(Aj B2 m q2).ownBlock≠(Aj O k e).ownBlock:=by
       exact I58
      have hrow':(Aj B2 m q2).ownBlock=none∨(Aj B2 m q2).ownBlock≠(Aj O3 (k+1) d3).ownBlock:=by
       exact I32
      have hnew:Bg w3 w6.heap.size (.slice B2 m q2) (gL s.hi.lines k):=⟨B2,m,q2,rfl,Ay.kept (Ay.lower hoc (Ap hsz (Ai _))) hgr hrow,hnc,hm⟩;have hold:Rp w3 w6.heap.size (Aj O3 (k+1) d3).ownBlock xs (s.hi.lines.take k):=(HO2.out.ext he2).grown hgr hor;have hall:G6 w3 w6.heap.size O3 (k+1) d3 (s.hi.lines.take (k+1)):=⟨xs++[.slice B2 m q2],by simpa using hO3,by rw[eU (by rw[HN.out];exact hlt)];exact hold.snoc hnew hrow',Ay.nocap' hO3⟩
      have HLn:=A4 (hall.setCell (p:=⟨g5,38,none⟩) hg56 (.slice O3 (k+1) d3));have HB1:=A4 (hb3.set_ 38 (.slice O3 (k+1) d3));have HX3:=A4 (hx3.setCell (p:=⟨g5,38,none⟩) hz5 (.slice O3 (k+1) d3));have HLow3:Hid (∀j,j<w6.heap.size→j≠g5→(w3.setCell ⟨g5,38,none⟩ (.slice O3 (k+1) d3)).heap[j]? = w6.heap[j]?):=A4 fun j hj hne=>by
       rw[Cd (fun e=>hne e),hgr.block j (by omega) (fun e=>by have:=hOl j e.symm;omega),Below.block he2 j (by omega)]
       exact HLow.out j hj hne
      have hsz3:w6.heap.size≤(w3.setCell ⟨g5,38,none⟩ (.slice O3 (k+1) d3)).heap.size:=by
       have:=(hb3.set_ 38 (.slice O3 (k+1) d3)).lt;have h1:=hgr.size;rw[World.size_setCell];omega
      have HA3:Hid ((a'.setIfInBounds 38 (.slice O3 (k+1) d3)).size=44∧(a'.setIfInBounds 38 (.slice O3 (k+1) d3))[38]? = some (.slice O3 (k+1) d3)∧∀j,j≠38→(a'.setIfInBounds 38 (.slice O3 (k+1) d3))[j]? = a[j]?):=
       A4 ⟨by simpa using HA.out.1,by rw[J0d,if_pos (by rw[HA.out.1];omega)],fun j hj=>by rw[D1 (by omega)];exact HA.out.2.2 j hj⟩
      clear hO3 hgr hor hx3 hb3 c0 f0 hoc hnc hec b1 b2 he2 hz2' hOb hOl hn0 hrow hrow' hnew hold hall a1 HO1 HO2 Hb1 Hx HC hc hB hm hsz HA HLow;go_wp2_with fail
      go_roundw
      case rel=>
       refine⟨_,_,_,_,_,_,_,_,_,_,_,_,_,?_,rfl⟩
       exact⟨k+1,O3,d3,_,by omega,by go_num,HA3,HB1,HLow3,HX3,HLn,hsz3⟩
      case measure=>simp[intOf];omega
     ·obtain rfl:k=nL:=by omega
      rw[List.take_of_length_le (by rw[HN.out];exact Ai _)]at HO
      have hbl:=(HP.out wr Hx.out);have d39:wr.cell? ⟨p,39,none⟩=some (.int .i64 s.hi.at_):=hbl.cell 39;have l37:∀j,10+27≤j→j≠38→a'[j]? = (Hu A n c B n9 d n8 s)[j]? := fun j h1 h2=>(HA.out.2.2 j h2).trans (HW6.out.2.2.1 j (.inr h1))
      have l10:∀j,j<10→a'[j]? = (Hu A n c B n9 d n8 s)[j]? := fun j h1=>(HA.out.2.2 j (by omega)).trans (HW6.out.2.2.1 j (.inl h1))
      have g39:wr.cell? ⟨g5,39,none⟩=some (.int .i64 0):=(Hb1.out.cell 39).trans (l37 39 (by omega) (by omega))
      have f39:=Hb1.out.frozen 39;have hg2:An wr w.heap.size 45 Fx:=(HLow.out _ (by have:=HW6.out.2.2.2.2.2.lt;omega) (fun e=>hn5' e.symm)).trans HW6.out.2.2.2.2.2
      have hb1':=Hb1.out.set_ 39 (.int .i64 s.hi.at_);have hg2':=Bh hg2 hn5' 39 (.int .i64 s.hi.at_);have hz39:(a'.setIfInBounds 39 (.int .i64 s.hi.at_)).size=44:=by simpa using HA.out.1
      have low:∀{y:Value} {l:List Int},Bg w6 (w.heap.size+1) y l→y.ownBlock≠some g5→Bg (wr.setCell ⟨g5,39,none⟩ (.int .i64 s.hi.at_)) (w.heap.size+1) y l:=fun h1 h2=>
       Q0 (qM h1 (Ai _) h2 HLow.out) Hb1.out (by decide)
      have ne39:∀j,j≠39→(a'.setIfInBounds 39 (.int .i64 s.hi.at_))[j]? = a'[j]? := fun j hj=>D1 (by omega)
      have H45:Ed (wr.setCell ⟨g5,39,none⟩ (.int .i64 s.hi.at_)) (w.heap.size+1) (a'.setIfInBounds 39 (.int .i64 s.hi.at_)) s:=
       {
        size:=hz39
        text:=⟨_,(ne39 0 (by omega)).trans (l10 0 (by omega)),low HW6.out.2.2.2.1.1 HW6.out.2.2.2.1.2⟩
        at_:=(ne39 1 (by omega)).trans (l10 1 (by omega))
        mode:=(ne39 2 (by omega)).trans (l10 2 (by omega))
        part:=⟨(ne39 3 (by omega)).trans (l10 3 (by omega)),(ne39 4 (by omega)).trans (l10 4 (by omega)),(ne39 5 (by omega)).trans (l10 5 (by omega)),(ne39 6 (by omega)).trans (l10 6 (by omega)),(ne39 7 (by omega)).trans (l10 7 (by omega))⟩
        find:=⟨(ne39 8 (by omega)).trans (l10 8 (by omega)),(ne39 9 (by omega)).trans (l10 9 (by omega))⟩
        regs:=fun i hi=>by
         obtain⟨x,h1,h2,h3⟩:=HW6.out.2.1 i hi;exact⟨x,((ne39 (10+i) (by omega)).trans (HA.out.2.2 (10+i) (by omega))).trans h1,low h2 h3⟩
        past:=by rw[hn8];exact(ne39 37 (by omega)).trans (l37 37 (by omega) (by omega))
        lines:=⟨O,k,e,(ne39 38 (by omega)).trans HA.out.2.1,(HO.out.setCell (p:=⟨g5,39,none⟩) hg56 _).lower (by omega)⟩
        where_:=by rw[J0d,if_pos (by rw[HA.out.1];omega)]
        over:=(ne39 40 (by omega)).trans (l37 40 (by omega) (by omega))
        row:=⟨_,(ne39 41 (by omega)).trans (l37 41 (by omega) (by omega)),low HW6.out.2.2.2.2.1.1 HW6.out.2.2.2.2.1.2⟩
        rat:=(ne39 42 (by omega)).trans (l37 42 (by omega) (by omega))
        off:=(ne39 43 (by omega)).trans (l37 43 (by omega) (by omega)) }
      have HX9:=Hx.out.setCell (p:=⟨g5,39,none⟩) hz5 (.int .i64 s.hi.at_);have hone:=H45.one;have HH:=A4 (Be H45 HX9);clear l37 l10 ne39 low H45 HX9 hg2 hbl HW6 HLow HO HA Hb1 Hx hsz;go_upto_region 13 with fail
      clear d39 g39 f39;generalize wr.setCell ⟨g5,39,none⟩ (.int .i64 s.hi.at_)=w9 at*;generalize a'.setIfInBounds 39 (.int .i64 s.hi.at_)=cs at*;have hns:Fx.size=cs.size:=by rw[hz39];rfl
      go_wp2_with (first|(refine wpList_load_row rfl 45 (.tmp 3) rfl g5 rfl 45 cs (0,0) _ hb1' Tryz.underlying45 rfl (Nf hz39) ?_)|(refine wpList_store_row rfl 45 (.tmp 2) (.tmp 87) rfl w.heap.size cs rfl rfl 45 Fx hg2' (Nf hz39) hns hone ?_))
      have hres:=hg2'.setRow cs;refine bodyPost_ret (v:=.agg cs) ?_ rfl ⟨cs,rfl,(HH.out.1.setRow (Nat.lt_succ_self _) cs).lower (Nat.le_succ _),HH.out.2.setRow (Ai _) cs⟩
      exact results_cell_row rfl _ _ w.heap.size 45 _ _ _ rfl hres Tryz.underlying45 rfl (Nf hz39)
theorem gQ (h:cs.size=2):(Tryz.prog.info? 43).map (·.size)=some cs.size:=by rw[h];kernel_rfl
theorem iQ {g:Nat}{x:Int}(hb:An w g 3 #[.int .i64 x]):Bi w (some ⟨g,0,none⟩) 1 1 [x]:=by
 refine⟨rfl,Ai _,by unfold maxLen;omega,fun _=>⟨_,rfl,fun j u hj=>?_⟩⟩
 have e1:(⟨g,0,none⟩:Addr).add (j*1)=⟨g,j,none⟩:=by simp[Addr.add_lit]
 have e2:(⟨g,0,none⟩:Addr).add j=⟨g,j,none⟩:=by simp[Addr.add_lit]
 first
  |rw[e1,hb.cell j]
  |rw[e2,hb.cell j]
 simpa using hj
theorem bC {n:Nat}(h1:2≤n)(h2:n≤120):
 Calls Tryz.prog 11 #[.int .i64 n] w fun e w'=>∃B d,e=.returned (.tuple #[.agg #[.slice B n d,.int .i64 0],.int .i64 0])∧Av w' w.heap.size B n d (Ar n 32)∧Al w w':=by
 have hx:=Al.alloc w (.cells #[.slice none 0 0,.int .i64 0] 43);have hb:=An.new w 43 #[.slice none 0 0,.int .i64 0];have b1:decide ((n:Int)<2)=false:=by simp;omega
 have b2:decide ((n:Int)>120)=false:=by simp;omega
 go_enter Tryz.func11,Tryz.ntmps11
 go_upto_region 3 with fail
 change Code.wp _ _ _ _ (w.alloc (.cells #[.slice none 0 0,.int .i64 0] 43));obtain⟨wa,hwa⟩:∃x,x=w.alloc (.cells #[.slice none 0 0,.int .i64 0] 43):=⟨_,rfl⟩;have hsz:wa.heap.size=w.heap.size+1:=by rw[hwa];exact Cc _ _
 rw[←hwa]at hx hb ⊢;clear hwa;have hx2:=hx.to_alloc (.cells #[.int .i64 32] 3);have hb2:=hb.ext (Al.alloc wa (.cells #[.int .i64 32] 3));have hsz2:(wa.alloc (.cells #[.int .i64 32] 3)).heap.size=w.heap.size+2:=by rw[Cc,hsz]
 have hrd:Bi (wa.alloc (.cells #[.int .i64 32] 3)) (some ⟨wa.heap.size,0,none⟩) 1 1 [32]:=iQ (An.new wa 3 #[.int .i64 32]);have HR:=A4 (Vn (n:=n) hrd (by omega))
 have HX:=A4 (Be hx2 (Be hb2 hsz2));clear hx hb hx2 hb2 hrd hsz2 hsz;go_wp2_with fail
 refine HR.out.mono ?_
 rintro e w2 ⟨⟨g,rfl,hO⟩,he⟩;have hx3:=HX.out.1.trans he;have hb3:=HX.out.2.1.ext he;have HZ3:=A4 (HX.out.2.2);clear HR HX;have e0:w2.cell? ⟨w.heap.size,0,none⟩=some (.slice none 0 0):=hb3.cell 0;have e1:w2.cell? ⟨w.heap.size,1,none⟩=some (.int .i64 0):=hb3.cell 1;have f0:=hb3.frozen 0;have f1:=hb3.frozen 1;have HH:=A4 (Be hx3 (Be hb3 hO));clear hx3 hb3 hO;go_wp2_with fail
 have hO3:Av _ w.heap.size (some ⟨g,0,none⟩) n n (Ar n 32):=Ay.lower (Hm HH.out.2.2 HH.out.2.1 (by decide) (.slice (some ⟨g,0,none⟩) n n) (.int .i64 0)) (by have:=HZ3.out;omega)
 refine bodyPost_ret (v:=.tuple #[.agg #[.slice (some ⟨g,0,none⟩) n n,.int .i64 0],.int .i64 0]) ?_ rfl ⟨_,_,rfl,hO3,Dr HH.out.1 (Ai _) _ _⟩
 exact J6 rfl _ _ w.heap.size 43 _ _ _ _ rfl rfl (Ds HH.out.2.1 (.slice (some ⟨g,0,none⟩) n n) (.int .i64 0)) Tryz.underlying43 rfl (gQ rfl)
theorem lZ:M6 []=.nil:=by
 unfold M6;rw[if_pos (show([]:List Int).length≤4096 from Aw _)]
 rfl
theorem Ys (w:World):Bp w none (M6 []):=by
 rw[lZ]
 rfl
def Qq (most:Int)(W:Nat):PS:=⟨[],0,1,fun _=>[],0,0,Pt.zero,⟨[],most,0,[],[],false⟩,[],[],none,none,[],false,[],0,W,Ar W 32,0,false,[],[]⟩
def Yd (R:Value):SV:=⟨none,none,fun _=>nl,nl,nl,nl,nl,none,none,nl,R,nl,nl⟩
theorem Db.made {w w1:World}{B:Option Addr}{W d b:Nat}(he:Al w w1)(hb:w.heap.size≤b)(ho:Av w1 b B W d (Ar W 32))(hW:W≤120):
 ∃col,Db (w1.alloc (.cells (Ll (Yd (.slice B W d)) (Qq most W)) 65)) col w1.heap.size (Yd (.slice B W d)) (Qq most W)∧∀k,col k≠0→w.heap.size≤k:=by
 have hlt:∀k,k<w1.heap.size→k<(w1.alloc (.cells (Ll (Yd (.slice B W d)) (Qq most W)) 65)).heap.size:=fun k hk=>by rw[Cc];omega
 have hsz:w1.heap.size<(w1.alloc (.cells (Ll (Yd (.slice B W d)) (Qq most W)) 65)).heap.size:=by rw[Cc];omega
 have hws:=he.hsize;refine⟨fun k=>if k=w1.heap.size then 7 else if w.heap.size≤k∧k<w1.heap.size then 1 else 0,⟨⟨An.new _ _ _,if_pos rfl,?_,trivial,fun k hk=>?_⟩,⟨none,0,0,[],rfl,Ay.nil _ _ _ _,rfl,nofun,fun M w' ha hk i hi=>absurd hi (Nat.not_lt_zero i)⟩,⟨none,0,0,rfl,Av.nil _ _,nofun⟩⟩,fun k hk=>?_⟩
 ·have hreg:Bg (w1.alloc (.cells (Ll (Yd (.slice B W d)) (Qq most W)) 65)) 0 (.slice B W d) (Ar W 32):=Bg.ext (Bg.lower ⟨B,W,d,rfl,ho,Ay.nocap' ho,by omega⟩ (Aw b)) (Al.alloc _ _)
  have hown:=fun g (hg:(Value.slice B W d).ownBlock=some g)=>Ay.blk ho g hg
  intro M w' ha hk;refine⟨Ys w',Ys w',⟨rfl,fun i hi=>⟨nl,Nd _ i hi,Bg.nil w' 0⟩⟩,⟨none,0,0,none,0,0,none,0,0,rfl,G6.nil _ _,Bg.nil w' 0,Bg.nil w' 0⟩,Z3 w',trivial,Bg.nil w' 0,?_⟩
  obtain⟨A,n,c,e,h1,h2,h3⟩:=hreg;injection e with e1 e2 e3;subst e1 e2 e3;refine⟨B,W,d,rfl,Ay.same h1 fun k hk'=>ha.block k (Ay.blk h1 k hk').2 (hk k (Ay.blk h1 k hk').2 ?_),h2,h3⟩
  have:=hown k hk'
  show(if k=w1.heap.size then 7 else if w.heap.size≤k∧k<w1.heap.size then 1 else 0)=1
  rw[if_neg (by omega),if_pos (by omega)]
 ·have hk:(if k=w1.heap.size then 7 else if w.heap.size≤k∧k<w1.heap.size then 1 else 0)≠0:=hk
  split at hk
  ·rename_i e;rw[e];exact hsz
  ·split at hk
   ·exact hlt k (by omega)
   ·exact absurd rfl hk
 ·have hk:(if k=w1.heap.size then 7 else if w.heap.size≤k∧k<w1.heap.size then 1 else 0)≠0:=hk
  split at hk
  ·rename_i e;rw[e];exact hws
  ·split at hk
   ·omega
   ·exact absurd rfl hk
theorem qE (h1:1≤most)(h2:most≤50)(h3:2≤W)(h4:W≤120):
 Calls Tryz.prog 4 #[.int .i64 most,.int .i64 W] w fun e w'=>∃p col v,e=.returned (.tuple #[.pointer (some ⟨p,0,none⟩),.int .i64 0])∧Db w' col p v (Qq most W)∧Al w w'∧∀k,col k≠0→w.heap.size≤k:=by
 have b1:decide (most<1)=false:=by simp;omega
 have b2:decide (most>50)=false:=by simp;omega
 have HT:=A4 (bC (w:=w) h3 h4);go_enter Tryz.func4,Tryz.ntmps4
 go_wp2_with fail
 refine HT.out.mono ?_
 rintro e w1 ⟨B,d,rfl,hO,he⟩;have hE1:=Al.alloc w1 (.cells #[.slice B W d,.int .i64 0] 43);have hb1:=An.new w1 43 #[.slice B W d,.int .i64 0];have hx1:=he.trans hE1;have hO1:Av _ w.heap.size B W d (Ar W 32):=Av.ext hO hE1;clear HT hO he hE1;go_upto_region 6 with fail
 change Code.wp _ _ _ _ (w1.alloc (.cells #[.slice B W d,.int .i64 0] 43));generalize w1.alloc (.cells #[.slice B W d,.int .i64 0] 43)=w2 at*;have e0:w2.cell? ⟨w1.heap.size,0,none⟩=some (.slice B W d):=hb1.cell 0;have e1:w2.cell? ⟨w1.heap.size,1,none⟩=some (.int .i64 0):=hb1.cell 1;have HM:=A4 (Db.made (most:=most) hx1 (Ai _) hO1 h4);have HX:=A4 (hx1.to_alloc (.cells (Ll (Yd (.slice B W d)) (Qq most W)) 65));clear hb1 hx1 hO1;go_wp2_with (first
  |(refine Great.wpList_boxTo rfl 65 (.tmp 26) rfl _ rfl _ rfl (Ll (Yd (.slice B W d)) (Qq most W)) (by kernel_rfl) ?_)
  |(refine wpList_buildTo rfl 65 _ rfl _ rfl (Ll (Yd (.slice B W d)) (Qq most W)) (by kernel_rfl) ?_))
 go_ret2
 obtain⟨col,hm,hc⟩:=HM.out;exact⟨_,col,_,rfl,hm,HX.out,hc⟩
structure yT (W V:Nat)(s:PS):Prop where
 line:pL s
 vis:s.vis.length≤V
 row:Wv W s
theorem lS {W V:Nat}{k:Int}(h:Wv W s)(hv:s.vis.length≤V)(hl:pL (Fg s k)):Wv W (Fg s k)∧(Fg s k).vis.length≤V∧Wv W (Jl s k)∧(Jl s k).vis.length≤V+1000:=by
 have hw:=kX (s:=s) (k:=k);unfold aI at hw;injection hw with e1 hw;injection hw with e2 hw;injection hw with e3 hw;injection hw with e4 hw;injection hw with e5 e6;have h1:Wv W (Fg s k):=h.same e1 e2 e3 e4;refine⟨h1,by rw[e5];exact hv,?_⟩
 unfold Jl;split
 ·exact⟨h,by omega⟩
 ·refine⟨h1.show hl,?_⟩
  obtain⟨k1,k2,k3,k4,k5,k6,k7⟩:=aS hl.lo hl.hi hl.len h1.off h1.lo h1.hi;have h2:=h1.show hl
  show((Fg s k).vis++Ec _ _ _ _).length≤_
  rw[List.length_append,e5];have hr:=h2.row;have hlen:=h2.len;have hr:Rs (Hw (Fg s k).tx (Ph (Fg s k).at_ (Fg s k).off (Fg s k).width) (Fg s k).width.toNat) W ((Fg s k).at_-Ph (Fg s k).at_ (Fg s k).off (Fg s k).width):=hr;have hlen:(Hw (Fg s k).tx (Ph (Fg s k).at_ (Fg s k).off (Fg s k).width) (Fg s k).width.toNat).length=W:=hlen;have h3:=Vk (a:=(Fg s k).row) (st:=(Fg s k).rat.toNat) (at_:=((Fg s k).at_-Ph (Fg s k).at_ (Fg s k).off (Fg s k).width).toNat) h1.len (by rw[Xk hr.2.2.1];exact hr) hlen (by have:=h1.row.2.2.2.1;omega)
  omega
theorem Ww.lt {ah:List Nat}(h:Ww ah):∀x∈ah,x<256:=by
 have hw:∀a,2≤Hq a→a<256:=fun a h=>by unfold Hq at h;(repeat' split at h)<;>omega
 have hf1:∀a b,Dz [a] b→b<256:=fun a b h=>by have:=pW.1 h;have:=Xc a;omega
 have hf2:∀a b c,Dz [a,b] c→c<256:=fun a b c h=>by have:=tY.1 h;omega
 match ah,h with
 |[],_=>intro x hx;cases hx
 |[a],h=>intro x hx;rw[List.mem_singleton.1 hx];exact hw a h
 |[a,b],h=>
  intro x hx;simp only[List.mem_cons,List.not_mem_nil,or_false]at hx;rcases hx with rfl|rfl
  ·exact hw _ (by have:=h.1;omega)
  ·exact hf1 _ _ h.2
 |[a,b,c],h=>
  intro x hx;simp only[List.mem_cons,List.not_mem_nil,or_false]at hx;rcases hx with rfl|rfl|rfl
  ·exact hw _ (by have:=h.1;omega)
  ·exact hf1 _ _ h.2.1
  ·exact hf2 _ _ _ h.2.2
structure Mf (W N:Nat)(s:PS):Prop where
 inv:∃T,Dy N N T s
 win:Wv W s
 pend:Ww s.pend
theorem qZ (h1:1≤most)(h2:most≤50)(h3:2≤W)(h4:W≤120):Mf W 0 (Qq most W):=
 ⟨⟨0,⟨Ez.nil,⟨Aw _,Lc 0,Lc 0⟩,fun _=>Ez.nil,Aw _,(fun x hx=>by cases hx),⟨Ez.nil,Aw _⟩,
  ⟨h1,h2,(by show(0:Int)≤most;omega),Lc 0,Lc 0,(fun x hx=>by cases hx),⟨Ez.nil,Aw _⟩,Aw _⟩,Aw _,nofun,nofun,.inr (.inl rfl),(fun e=>by rcases e with e|e<;>cases e),Sm,Ai _⟩⟩,
  ⟨rfl,h3,h4,⟨Lc 0,show(0:Int)≤200 by decide⟩,⟨h3,h4,Lc 0,Int.natCast_nonneg _,fun k hk=>by
   unfold Me
   show 32≤gI (Ar W 32) k∧gI (Ar W 32) k≠127
   have:gI (Ar W 32) k=32:=by unfold gI;rw[List.getElem?_replicate];simp[hk]
   rw[this];decide⟩,List.length_replicate⟩,trivial⟩
noncomputable def Qr (s:PS)(b:ByteArray):PS:=Cx (Kb s (G3 s.pend (Ao b)).ah) (G3 s.pend (Ao b)).out
theorem Yw {W N T V:Nat}{k:Int}(h1:Dy N N T s)(h2:Wv W s)(h3:s.vis.length≤V)(hk:Pf k):
 Dy (N+1) (N+1) (T+N+1) (Jl s k)∧Wv W (Jl s k)∧(Jl s k).vis.length≤V+1000∧yT W V (Fg s k):=by
 have j:=h1.key hk;obtain⟨w1,w2,w3,w4⟩:=lS (k:=k) h2 h3 j.line;refine⟨?_,w3,w4,j.line,w2,w1⟩
 unfold Jl;split
 ·exact h1.mono (by omega) (by omega) (by omega)
 ·exact⟨j.tx,⟨j.line.len,j.line.lo,j.line.hi⟩,j.rl,j.past,j.pasts,j.first,j.hist,j.ask,j.last,j.now,j.mode,j.idle,j.part,j.told⟩
theorem Yv:∀(ks:List Int) {N T V:Nat} {s:PS},Dy N N T s→Wv W s→s.vis.length≤V→(∀k∈ks,Pf k)→
 (∃T' V',T'≤T+ks.length*(N+ks.length+1)∧V'≤V+ks.length*1000∧Dy (N+ks.length) (N+ks.length) T' (Cx s ks)∧Wv W (Cx s ks)∧(Cx s ks).vis.length≤V'):=by
 intro ks
 induction ks with
 |nil=>intro N T V s h1 h2 h3 _;exact⟨T,V,by simp,by simp,h1,h2,h3⟩
 |cons k ks ih=>
  intro N T V s h1 h2 h3 h4;obtain⟨a1,a2,a3,_⟩:=Yw (k:=k) h1 h2 h3 (h4 k List.mem_cons_self);obtain⟨T',V',ht,hv,i1,i2,i3⟩:=ih a1 a2 a3 (fun x hx=>h4 x (List.mem_cons_of_mem _ hx))
  have e:Cx s (k::ks)=Cx (Jl s k) ks:=rfl;rw[e,List.length_cons];have hm:(ks.length+1)*(N+(ks.length+1)+1)=ks.length*(N+1+ks.length+1)+(N+ks.length+2):=by
   rw[Nat.add_mul,Nat.one_mul,show N+(ks.length+1)+1=N+1+ks.length+1 by omega]
   omega
  refine⟨T',V',by omega,by omega,?_,i2,i3⟩
  rw[show N+(ks.length+1)=N+1+ks.length by omega]
  exact i1
theorem gB (s:PS)(k:Int):(Jl s k).pend=s.pend:=by
 have hw:=kX (s:=s) (k:=k);unfold aI at hw;injection hw with e1 hw;injection hw with e2 hw;injection hw with e3 hw;injection hw with e4 hw;injection hw with e5 e6;unfold Jl;split
 ·rfl
 ·exact e6
theorem bN:∀(ks:List Int) (s:PS),(Cx s ks).pend=s.pend:=by
 intro ks
 induction ks with
 |nil=>intro s;rfl
 |cons k ks ih=>intro s;exact(ih (Jl s k)).trans (gB s k)
theorem Mf.feed {W N:Nat}{b:ByteArray}(h:Mf W N s)(hN:N≤1900000)(hs:b.size≤4096):
 Mf W (N+(b.size+1)) (Qr s b)∧(Qr s b).told.length≤(b.size+1)*1905000∧(Qr s b).vis.length≤(b.size+1)*1000∧
 (∀i,i<(G3 s.pend (Ao b)).out.length→(Cx (Kb s (G3 s.pend (Ao b)).ah) ((G3 s.pend (Ao b)).out.take i)).over=false→
  yC (Cx (Kb s (G3 s.pend (Ao b)).ah) ((G3 s.pend (Ao b)).out.take i))∧zB (Fg (Cx (Kb s (G3 s.pend (Ao b)).ah) ((G3 s.pend (Ao b)).out.take i)) (gI (G3 s.pend (Ao b)).out i))):=by
 obtain⟨T,hT⟩:=h.inv;obtain⟨r1,r2,r3⟩:=Sp (Ao b) s.pend h.pend;have hlen1:(G3 s.pend (Ao b)).out.length≤b.size+1:=by
  unfold G3;have:(Ao b).length=b.size:=Ho b;omega
 have hlen:(G3 s.pend (Ao b)).out.length≤4097:=by omega
 have hch:∀k∈(G3 s.pend (Ao b)).out,Pf k:=fun k hk=>⟨(r2 k hk).1,(r2 k hk).2.1⟩
 have hpe:Ww (G3 s.pend (Ao b)).ah:=r1;unfold Qr;generalize G3 s.pend (Ao b)=mc at*;obtain⟨s0,hs0⟩:∃x,x=Kb s mc.ah:=⟨_,rfl⟩;have i0:Dy N N 0 s0:=by
  rw[hs0];exact⟨hT.tx,⟨hT.line.len,hT.line.lo,hT.line.hi⟩,hT.rl,hT.past,hT.pasts,hT.first,hT.hist,hT.ask,hT.last,hT.now,hT.mode,hT.idle,hT.part,Ai _⟩
 have w0:Wv W s0:=by rw[hs0];exact h.win.same rfl rfl rfl rfl
 have v0:s0.vis.length≤0:=by rw[hs0];exact Ai _
 have p0:s0.pend=mc.ah:=by rw[hs0];rfl
 rw[←hs0];clear hs0;have bd:∀n:Nat,n≤4097→n*(N+n+1)≤n*1905000:=fun n hn=>Nat.mul_le_mul_left n (by omega)
 obtain⟨T',V',t1,t2,t3,t4,t5⟩:=Yv mc.out i0 w0 v0 hch;have hb1:=bd _ hlen;have hb3:=Nat.mul_le_mul_right 1905000 hlen1;have hb4:=Nat.mul_le_mul_right 1000 hlen1;have hpend:∀ks,(Cx s0 ks).pend=s0.pend:=fun ks=>bN ks s0
 refine⟨⟨⟨T',t3.mono (by omega) (by omega) (Ai _)⟩,t4,by rw[hpend,p0];exact hpe⟩,Ap t3.told (by omega),Ap t5 (by omega),fun i hi _=>?_⟩
 have hti:(mc.out.take i).length=i:=by rw[List.length_take];omega
 obtain⟨T2,V2,u1,u2,u3,u4,u5⟩:=Yv (mc.out.take i) i0 w0 v0 (fun k hk=>hch k (List.mem_of_mem_take hk))
 rw[hti]at u1 u2 u3;have hb2:=bd i (by omega)
 have hb5:i*1905000≤4097*1905000:=Nat.mul_le_mul_right _ (by omega)
 have hb6:i*1000≤4097*1000:=Nat.mul_le_mul_right _ (by omega)
 refine⟨u3.gok (by omega) (by omega),?_⟩
 obtain⟨_,_,_,x1,x2,x3⟩:=Yw (k:=gI mc.out i) u3 u4 u5 (hch _ (vV hi));exact⟨x1,by omega,W,x3⟩
theorem Db.alt {M:Nat→Prop}{p:Nat}{v:SV}(h:Db w col p v s)(ha:Fp M w w')(hM:∀k,k<w.heap.size→M k→col k=0):Db w' col p v s:=by
 have hm:∀c,c≠0→∀k,k<w.heap.size→M k→col k≠c:=fun c hc k h1 h2 e=>hc (e▸hM k h1 h2)
 have hp:¬M p:=fun hm'=>by have:=hM p h.ses.blk.lt hm';have:=h.ses.own;omega
 exact⟨⟨ha.blk h.ses.blk hp,h.ses.own,h.ses.dat.turn ha (hm 1 (by decide)) fun _ _=>rfl,h.ses.now.turn ha (fun k h1 h2=>⟨hm 2 (by decide) k h1 h2,hm 3 (by decide) k h1 h2⟩) fun _ _=>rfl,fun k hk=>Nat.lt_of_lt_of_le (h.ses.dom k hk) ha.size⟩,h.told.turn ha (fun k h1 h2=>⟨hm 4 (by decide) k h1 h2,hm 5 (by decide) k h1 h2⟩) fun _ _=>rfl,h.vis.turn ha (hm 6 (by decide)) fun _ _=>rfl⟩
def yD (w:World)(b:Nat)(E:Value)(evs:List (Int×List Int)):Prop:=∃A n c xs,E=.slice A n c∧Ay w b 31 2 A n c xs∧evs.length=n∧Yn w xs evs
theorem Yn.one {l:List (Int×List Int)}(h:Yn w xs l)(hl:xs.length=l.length*2):∀u∈xs,u.oneCell'=true:=by
 intro u hu;obtain⟨j,hj,rfl⟩:=List.getElem_of_mem hu;obtain⟨y,h1,h2,A,n,c,rfl,_⟩:=h (j/2) (by omega)
 rcases Nat.mod_two_eq_zero_or_one j with e|e
 ·rw[show j/2*2=j by omega,By hj]at h1
  injection h1 with h1;rw[h1];rfl
 ·rw[show j/2*2+1=j by omega,By hj]at h2
  injection h2 with h2;rw[h2];rfl
structure Cr where
 tx:List Int
 at_:Int
 md:Int
 rl:Nat→List Int
 part:Pt
 hi:Hi
 past:List (List Int×Int)
 first:List Int
 last:Option (Cm×List Int)
 told:List (Int×List Int)
def tR:Nat→List Int:=fun _=>[]
def tS:Hi:=⟨[],5,0,[],[],false⟩
def xA:List Int:=[97,98,32,99,100]
def zA:Cm:=⟨0,0,100,119,0⟩
def c0:Cr:=⟨[],0,1,tR,Pt.zero,tS,[],[],none,[]⟩
def c9:Cr:=⟨[99,100],0,0,Nx tR 0 false [97,98,32],Pt.zero,tS,[(xA,0)],[],some (zA,[]),[]⟩
def d0:Cr:={ c9 with told:=[] }
def d1:Cr:=⟨xA,0,0,Nx tR 0 false [97,98,32],Pt.zero,tS,[],[],some (zA,[]),[]⟩
def fG (w:World)(A:Option Addr)(n c:Nat)(evs:List (Int×List Int)):Prop:=∃xs,Rd w 2 A n c xs∧evs.length=n∧∀i,i<n→∃S q r,xs[i*2]? = some (.int .i64 (gV evs i).1)∧xs[i*2+1]? = some (.slice S q r)∧Bi w S q r (gV evs i).2
theorem fG.ext {n c:Nat}(h:fG w A n c evs)(he:Al w w'):fG w' A n c evs:=by
 obtain⟨xs,h1,h2,h3⟩:=h;exact⟨xs,Rd.ext h1 he,h2,fun i hi=>by obtain⟨S,q,r,k1,k2,k3⟩:=h3 i hi;exact⟨S,q,r,k1,k2,k3.ext he⟩⟩
theorem yD.v {E:Value}(h:yD w b E evs):∃A n c,E=.slice A n c∧fG w A n c evs:=by
 obtain⟨A,n,c,xs,rfl,h1,h2,h3⟩:=h;exact⟨A,n,c,rfl,xs,Ay.rd h1,h2,fun i hi=>by obtain⟨y,k1,k2,S,q,r,rfl,k3,_⟩:=h3 i (by omega);exact⟨S,q,r,k1,k2,k3.ints⟩⟩
theorem fG.at_ {n c:Nat}(h:fG w A n c evs){k:Nat}(hk:k<n):
 ∃ad S q r,A=some ad∧w.cell? (ad.add (k*2))=some (.int .i64 (gV evs k).1)∧w.cell? ⟨(ad.add (k*2)).block,(ad.add (k*2)).off+1,none⟩=some (.slice S q r)∧Bi w S q r (gV evs k).2:=by
 obtain⟨xs,h1,h2,h3⟩:=h;obtain⟨ad,hA,hc⟩:=h1.at_ hk;obtain⟨S,q,r,k1,k2,k3⟩:=h3 k hk;refine⟨ad,S,q,r,hA,hc _ _ k1,?_,k3⟩
 exact I127
theorem dH {f:Int}{n c m d:Nat}{x:List Int}(hl:Bi w A n c x)(hl':Bi w B m d x):
 Calls Tryz.prog 18 #[.agg #[.int .i64 f,.slice A n c],.agg #[.int .i64 f,.slice B m d]] w fun e w'=>e=.returned (.bool true)∧Al w w':=by
 have hx:Al w ((w.alloc (.cells #[.int .i64 f,.slice A n c] 31)).alloc (.cells #[.int .i64 f,.slice B m d] 31)):=(Al.alloc _ _).to_alloc _;have HC:Hid (Calls Tryz.prog 9 #[.slice A n c,.slice B m d] ((w.alloc (.cells #[.int .i64 f,.slice A n c] 31)).alloc (.cells #[.int .i64 f,.slice B m d] 31)) fun e w'=>e=.returned (.bool true)∧Al ((w.alloc (.cells #[.int .i64 f,.slice A n c] 31)).alloc (.cells #[.int .i64 f,.slice B m d] 31)) w'):=
  A4 ((J4 (hl.ext hx) (hl'.ext hx)).mono fun e w' ⟨h1,h2⟩=>⟨by rw[h1,Lf.2 rfl],h2⟩)
 have b1:(f==f)=true:=by simp
 clear hl hl';go_enter Tryz.func18,Tryz.ntmps18
 go_wp2_with fail
 refine HC.out.mono ?_
 rintro e w1 ⟨rfl,he1⟩;go_wp2_with fail
 go_ret
 exact⟨rfl,hx.trans he1⟩
theorem dI {n c d:Nat}(h:fG w A n c evs)(h':fG w B n d evs):
 Calls Tryz.prog 17 #[.slice A n c,.slice B n d,.func (.func 18) #[] #[]] w fun e w'=>e=.returned (.bool true)∧Al w w':=by
 have hcm:=Nat.le_trans h.choose_spec.1.ncap h.choose_spec.1.nmax;unfold maxLen at hcm;have hne:((n:Int) !=(n:Int))=false:=by simp
 go_enter Tryz.func17,Tryz.ntmps17
 go_wp2_with fail
 go_loopw [17] (fun i wr=>∃k:Nat,k≤n∧i=.int .i64 k∧Al w wr) (fun i _=>n-(intOf i).toNat)
 case atStart=>exact⟨0,by omega,rfl,Al.refl _⟩
 case round=>
  obtain⟨k,hk,rfl,he⟩:=hrel;by_cases hlt:k<n
  ·obtain⟨ad,S,x,y,rfl,k0,k1,hx⟩:=(h.ext he).at_ hlt
   obtain⟨ad',S',x',y',rfl,l0,l1,hx'⟩:=(h'.ext he).at_ hlt;generalize (gV evs k).1=f at*;generalize (gV evs k).2=z at*;have e1:=(Al.alloc wr (.cells #[.int .i64 f,.slice S x y] 31)).cell l0;have e2:=(Al.alloc wr (.cells #[.int .i64 f,.slice S x y] 31)).cell l1;have hx2:Al w ((wr.alloc (.cells #[.int .i64 f,.slice S x y] 31)).alloc (.cells #[.int .i64 f,.slice S' x' y'] 31)):=(he.to_alloc _).to_alloc _;have hxr:Al wr ((wr.alloc (.cells #[.int .i64 f,.slice S x y] 31)).alloc (.cells #[.int .i64 f,.slice S' x' y'] 31)):=(Al.alloc _ _).to_alloc _;have HC:=A4 (dH (f:=f) (hx.ext hxr) (hx'.ext hxr));have HX2:=A4 hx2;clear hx hx' l0 l1 hx2 hxr;go_wp2_with fail
   refine HC.out.mono ?_
   rintro e' w1 ⟨rfl,he1⟩;clear HC;go_wp2_with fail
   go_roundw
   case rel=>exact⟨k+1,by omega,by go_num,HX2.out.trans he1⟩
   case measure=>simp[intOf];omega
  ·obtain rfl:k=n:=by omega
   go_wp2_with fail
   go_ret
   exact⟨rfl,he⟩
theorem Uy {n c d:Nat}(h:fG w A n c evs)(h':fG w B n d evs):
 Calls Tryz.prog 8 #[.slice A n c,.slice B n d] w fun e w'=>e=.returned (.bool true)∧Al w w':=by
 have HC:=A4 (dI h h');clear h h';go_enter Tryz.func8,Tryz.ntmps8
 go_wp2_with fail
 refine HC.out.mono ?_
 rintro e' w1 ⟨rfl,he1⟩;go_wp2_with fail
 go_ret
 exact⟨rfl,he1⟩
end
