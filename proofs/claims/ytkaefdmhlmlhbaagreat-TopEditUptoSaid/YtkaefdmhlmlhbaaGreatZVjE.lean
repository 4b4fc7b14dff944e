/-
  Part ZVjE.
-/
import Derived.Test.YtkaefdmhlmlhbaaGreatZVjD
set_option maxRecDepth 100000
set_option maxHeartbeats 16000000
set_option linter.unusedVariables false
set_option linter.unusedSimpArgs false
namespace Go.Proofs.YtkaefdmhlmlhbaaGreat
open Go.RowKit
open Act renaming put→Ap
open AllReadyH renaming cons→Ai,nil→Am
open _root_.And renaming intro→Bb
open _root_.Array renaming getElem?_setIfInBounds_ne→E3,getElem?_setIfInBounds_self→J2z
open _root_.List renaming eq_nil_of_length_eq_zero→Dm,getElem?_append_left→Bp,getElem?_append_right→Bu,getElem?_eq_getElem→Bm,getElem_cons_succ→Ab,getElem_cons_zero→Aa,getElem_toArray→Ac,length_append→Ba,replicate→Au,setIfInBounds_toArray→A7,set_cons_succ→Ae,set_cons_zero→Ad
open _root_.Nat renaming le_refl→Aj,le_trans→Ar,lt_of_lt_of_le→Bq,mul_le_mul_right→J2x,zero_le→Aw
open Value renaming oneCell'→Bz,slice→Ak
open World renaming size_alloc→Cl
open _root_.Int renaming le_refl→Mg
section
variable {cs:Array Value}{w w':World}{s:PS}{col:Nat→Nat}{evs:List (Int×List Int)}{A:Option Addr}{xs xs':List Value}{vis l:List Int}{most k:Int}{b W:Nat}
theorem fJ {P:Program}{o:Oper}{a:Act}(t:TypeId)(parts:Array (Nat×Operand))(ho:o.op=.build t parts)(cells:Array Value)
 (hf:P.built t (parts.map fun(i,x)=>(i,a.eval x)).toList=some cells):(execOp a.eval o).run P w=.ok (.value (.agg cells)) w:=by
 unfold execOp;simp only[ho,Sem.run_bind,run_build w t _ cells hf,Result.andThen_ok,Sem.run_pure]
def Jl (A:Option Addr)(n c:Nat)(B:Option Addr)(m d h:Nat)(s:PS):Array Value:=#[.slice A n c,.int .i64 s.at_,.int .i64 s.mode,.int .i64 s.part.first,.int .i64 s.part.reg,.int .i64 s.part.op,.int .i64 s.part.second,.int .i64 s.part.wait,.int .i64 s.fk,.int .i64 s.fa,.slice none 0 0,.slice none 0 0,.slice none 0 0,.slice none 0 0,.slice none 0 0,.slice none 0 0,.slice none 0 0,.slice none 0 0,.slice none 0 0,.slice none 0 0,.slice none 0 0,.slice none 0 0,.slice none 0 0,.slice none 0 0,.slice none 0 0,.slice none 0 0,.slice none 0 0,.slice none 0 0,.slice none 0 0,.slice none 0 0,.slice none 0 0,.slice none 0 0,.slice none 0 0,.slice none 0 0,.slice none 0 0,.slice none 0 0,.slice none 0 0,.int .i64 (h:Int),.slice none 0 0,.int .i64 0,.bool s.over,.slice B m d,.int .i64 s.rat,.int .i64 s.off]
def E5:Array Value:=#[.slice none 0 0,.int .i64 0,.int .i64 0,.int .i64 0,.int .i64 0,.int .i64 0,.int .i64 0,.int .i64 0,.int .i64 0,.int .i64 0,.slice none 0 0,.slice none 0 0,.slice none 0 0,.slice none 0 0,.slice none 0 0,.slice none 0 0,.slice none 0 0,.slice none 0 0,.slice none 0 0,.slice none 0 0,.slice none 0 0,.slice none 0 0,.slice none 0 0,.slice none 0 0,.slice none 0 0,.slice none 0 0,.slice none 0 0,.slice none 0 0,.slice none 0 0,.slice none 0 0,.slice none 0 0,.slice none 0 0,.slice none 0 0,.slice none 0 0,.slice none 0 0,.slice none 0 0,.slice none 0 0,.int .i64 0,.slice none 0 0,.int .i64 0,.bool false,.slice none 0 0,.int .i64 0,.int .i64 0]
structure Fe (w:World)(b:Nat)(cs:Array Value)(s:PS):Prop where
 size:cs.size=44
 text:∃v,cs[0]? = some v∧Bk w b v s.tx
 at_:cs[1]? = some (.int .i64 s.at_)
 mode:cs[2]? = some (.int .i64 s.mode)
 part:cs[3]? = some (.int .i64 s.part.first)∧cs[4]? = some (.int .i64 s.part.reg)∧cs[5]? = some (.int .i64 s.part.op)∧cs[6]? = some (.int .i64 s.part.second)∧cs[7]? = some (.int .i64 s.part.wait)
 find:cs[8]? = some (.int .i64 s.fk)∧cs[9]? = some (.int .i64 s.fa)
 regs:∀i,i<27→∃v,cs[10+i]? = some v∧Bk w b v (s.rl i)
 past:cs[37]? = some (.int .i64 (s.past.length:Int))
 lines:∃A n c,cs[38]? = some (.slice A n c)∧Gv w b A n c s.hi.lines
 where_:cs[39]? = some (.int .i64 s.hi.at_)
 over:cs[40]? = some (.bool s.over)
 row:∃v,cs[41]? = some v∧Bk w b v s.row
 rat:cs[42]? = some (.int .i64 s.rat)
 off:cs[43]? = some (.int .i64 s.off)
theorem lC (A:Option Addr)(n c:Nat)(B:Option Addr)(m d h:Nat)(s:PS):(Jl A n c B m d h s).all (·.oneCell')=true:=by unfold Jl;simp[Bz]
theorem Vo {base e z n c g t:Nat}(h:Bd w base e z A n c xs)(hb:Aq w g t cs)(hne:t≠e)(us:Array Value):Bd (w.setRow g us) base e z A n c xs:=
 Bd.same h fun k hk=>Go.setRow_other w g k us (fun e=>Nx h hb hne (by rw[hk,e]))
theorem pC (v:SV)(s:PS)(i:Nat)(hi:i<27):(Mn v s)[3+i]? = some (v.r i):=by
 exact I1
theorem uH (v:SV)(s:PS)(j:Nat)(x:Value)(h:(Mc v.r)[j]? = some x):(Mn v s)[3+j]? = some x:=by
 have hj:j<27:=by
  rcases Nat.lt_or_ge j 27 with h1|h1
  ·exact h1
  ·rw[Array.getElem?_eq_none (show(Mc v.r).size≤j from h1)]at h;cases h
 rw[Pq v.r j hj]at h;rw[pC v s j hj];exact h
theorem Wj {i n c:Nat}(hi:i<27)(hv:cs[i]? = some (.slice A n c))(u:World):
 (Instr.index 38 (.agg cs) (.int .i64 (i:Int))).run Tryz.prog u=.ok (.slice A n c) u:=by
 have hu:Tryz.prog.underlying 38=some (.array 27 25):=by kernel_rfl
 have hz:∀u,(sizeOf 25).run Tryz.prog u=.ok 1 u:=fun u=>by kernel_rfl
 have h1:(0:Int)≤(i:Int)∧(i:Int)<(27:Nat):=by omega
 have h2:(i:Int)<27:=by omega
 have hg:∀u,(isAgg 25).run Tryz.prog u=.ok false u:=fun u=>by kernel_rfl
 have hp:∀u,(part 25 cs i).run Tryz.prog u=.ok (.slice A n c) u:=fun u=>by
  unfold part;simp[hg,hv]
 simp[Instr.index,run_underlying hu,asIntOf,h1,h2,hz,hp,hi,hv,go_sem]
theorem lB (A:Option Addr)(n c:Nat)(B:Option Addr)(m d h:Nat)(s:PS)(i:Nat)(hi:i<27):(Jl A n c B m d h s)[10+i]? = some (.slice none 0 0):=by
 exact I1
theorem Rc {b g i t:Nat}{y u:Value}(h:Bk w b y l)(hb:Aq w g t cs)(hne:t≠3):Bk (w.setCell ⟨g,i,none⟩ u) b y l:=by
 obtain⟨A,n,c,rfl,h1,h2,h3⟩:=h;exact⟨A,n,c,rfl,gX h1 hb hne i u,h2,h3⟩
theorem uJ {b m g:Nat}{y:Value}(h:Bk w b y l)(hs:w.heap.size≤m)(hg:y.ownBlock≠some g)(hl:∀k,k<m→k≠g→w'.heap[k]? = w.heap[k]?):Bk w' b y l:=by
 obtain⟨A,n,c,rfl,h1,h2,h3⟩:=h;exact⟨A,n,c,rfl,Bd.same h1 fun k hk=>hl k (Nat.lt_of_lt_of_le (Bd.blk h1 k hk).2 hs) (fun e=>hg (e▸hk)),h2,h3⟩
theorem dB {b g t:Nat}{y:Value}(h:Bk w b y l)(hb:Aq w g t cs)(hne:t≠3):y.ownBlock≠some g:=by
 obtain⟨A,n,c,rfl,h1,_⟩:=h;exact Nx h1 hb hne
theorem Fe.one (h:Fe w b cs s):cs.all (·.oneCell')=true:=by
 have hr:∀{v:Value} {l:List Int},Bk w b v l→v.oneCell'=true:=fun⟨_,_,_,e,_⟩=>by rw[e];rfl
 rw[Array.all_eq_true];intro j hj;rw[h.size]at hj;have key:∀{x:Value},cs[j]? = some x→x.oneCell'=true→(cs[j]).oneCell'=true:=fun {x} h1 h2=>by
  rw[Array.getElem?_eq_getElem (by rw[h.size];exact hj)]at h1
  injection h1 with h1;rw[h1];exact h2
 by_cases hmid:10≤j∧j<37
 ·obtain⟨v,h1,h2⟩:=h.regs (j-10) (by omega)
  rw[show 10+(j-10)=j by omega]at h1
  exact key h1 (hr h2)
 ·obtain⟨v0,a0,b0⟩:=h.text
  obtain⟨v1,a1,b1⟩:=h.row;obtain⟨A,n,c,a2,_⟩:=h.lines;obtain⟨p3,p4,p5,p6,p7⟩:=h.part;obtain⟨f8,f9⟩:=h.find;have hc:j=0∨j=1∨j=2∨j=3∨j=4∨j=5∨j=6∨j=7∨j=8∨j=9∨j=37∨j=38∨j=39∨j=40∨j=41∨j=42∨j=43:=by omega
  rcases hc with rfl|rfl|rfl|rfl|rfl|rfl|rfl|rfl|rfl|rfl|rfl|rfl|rfl|rfl|rfl|rfl|rfl
  ·exact key a0 (hr b0)
  ·exact key h.at_ rfl
  ·exact key h.mode rfl
  ·exact key p3 rfl
  ·exact key p4 rfl
  ·exact key p5 rfl
  ·exact key p6 rfl
  ·exact key p7 rfl
  ·exact key f8 rfl
  ·exact key f9 rfl
  ·exact key h.past rfl
  ·exact key a2 rfl
  ·exact key h.where_ rfl
  ·exact key h.over rfl
  ·exact key a1 (hr b1)
  ·exact key h.rat rfl
  ·exact key h.off rfl
theorem Ju (h:cs.size=44):(Tryz.prog.info? 43).map (·.size)=some cs.size:=by rw[h];kernel_rfl
theorem Fe.setRow {b g:Nat}(h:Fe w b cs s)(hg:g<b)(us:Array Value):Fe (w.setRow g us) b cs s:=
 {
  h with
  text:=let ⟨v,h1,h2⟩:=h.text;⟨v,h1,h2.setRow hg us⟩
  regs:=fun i hi=>let ⟨v,h1,h2⟩:=h.regs i hi;⟨v,h1,h2.setRow hg us⟩
  lines:=let ⟨A,n,c,h1,h2⟩:=h.lines;⟨A,n,c,h1,h2.setRow hg us⟩
  row:=let ⟨v,h1,h2⟩:=h.row;⟨v,h1,h2.setRow hg us⟩ }
theorem Fe.lower {b b':Nat}(h:Fe w b cs s)(hb:b'≤b):Fe w b' cs s:=
 {
  h with
  text:=let ⟨v,h1,h2⟩:=h.text;⟨v,h1,h2.lower hb⟩
  regs:=fun i hi=>let ⟨v,h1,h2⟩:=h.regs i hi;⟨v,h1,h2.lower hb⟩
  lines:=let ⟨A,n,c,h1,h2⟩:=h.lines;⟨A,n,c,h1,h2.lower hb⟩
  row:=let ⟨v,h1,h2⟩:=h.row;⟨v,h1,h2.lower hb⟩ }
theorem Fe.ext (h:Fe w b cs s)(he:An w w'):Fe w' b cs s:=
 {
  h with
  text:=let ⟨v,h1,h2⟩:=h.text;⟨v,h1,h2.ext he⟩
  regs:=fun i hi=>let ⟨v,h1,h2⟩:=h.regs i hi;⟨v,h1,h2.ext he⟩
  lines:=let ⟨A,n,c,h1,h2⟩:=h.lines;⟨A,n,c,h1,h2.ext he⟩
  row:=let ⟨v,h1,h2⟩:=h.row;⟨v,h1,h2.ext he⟩ }
theorem L2 {p:Nat}{v:SV}(h:Di w col p v s)(hl:s.tx.length≤200)(hh:s.hi.lines.length≤1000):
 Calls Tryz.prog 14 #[.pointer (some ⟨p,0,none⟩)] w fun e w'=>∃cs,e=.returned (.agg cs)∧Fe w' w.heap.size cs s∧An w w':=by
 obtain⟨i0,hi,hz0,hz1,hz2⟩:=info_parts Ms;have hd:=h.ses.dat.here;obtain⟨A8,n8,c8,xs8,hv8,_,hn8,_⟩:=hd.past;obtain⟨A9,n9,k9,hv9,ho9,hc9,hz9⟩:=hd.row;have hx:=An.alloc w (.cells E5 43);have hb2:=Aq.new w 43 E5;have HLN:Hid (∀wq,An w wq→Calls Tryz.prog 34 #[.pointer (some ⟨p,0,none⟩)] wq fun e w'=>∃u,e=.returned u∧(∃A n c,u=.agg #[.slice A n c,.int .i64 s.at_]∧Av w' wq.heap.size A n c s.tx)∧An wq w'):=
  A6 fun wq he=>U8 (h.ext he) (by omega)
 have HCL:Hid (∀wq,An w wq→Calls Tryz.prog 35 #[.slice A9 n9 k9] wq fun e w'=>∃u,e=.returned u∧(∃B d,u=.slice B n9 d∧Av w' wq.heap.size B n9 d s.row)∧An wq w'):=
  A6 fun wq he=>(D3 (ho9.ints.ext he) hc9 hz9).mono fun e w' ⟨B,d,h1,h2,_,h4⟩=>⟨_,h1,⟨B,d,rfl,h2⟩,h4⟩
 have HP:=A6 (fun wq (he:An w wq)=>h.ses.blk.ext he)
 have HV:=A6 (Bb hv8 hv9);have H:=A6 h;clear h hd hv8 hv9 ho9 hc9;obtain⟨Wa,hWa⟩:∃x,x=w.alloc (.cells E5 43):=⟨_,rfl⟩;rw[←hWa]at hx hb2;have HWS:Hid (w.heap.size+1=Wa.drew.heap.size):=A6 (by rw[hWa];simp[World.drew])
 have HWA:=A6 hWa;clear hWa;go_enter Tryz.func14,Tryz.ntmps14
 go_upto_region 1 with fail
 change Code.wp _ _ _ _ (w.alloc (.cells E5 43));rw[←HWA.out];have hxd:=hx.to_drew;have hcb:Aq Wa.drew w.heap.size 43 E5:=hb2;clear HWA;refine wp_region_held_drew (S:=fun w'=>An w w'∧Aq w' w.heap.size 43 E5) (by kernel_rfl) ⟨hxd,hcb⟩ (fun hS=>?_)
 clear hx hb2 hxd hcb;refine Bf (i:=0) (v:=(.pointer (some ⟨p,0,none⟩))) rfl hS ?_
 refine Bf (i:=2) (v:=(.pointer (some ⟨p,0,none⟩))) rfl hS ?_
 refine Bf (i:=3) (v:=(.pointer (some ⟨p,0,none⟩))) rfl hS ?_
 refine Bf (i:=4) (v:=(.pointer (some ⟨p,2,none⟩))) rfl hS ?_
 refine Fs (i:=5) (v:=(.int .i64 s.mode)) rfl (fun w' hSw=>by have e0:w'.cell? ⟨p,2,none⟩=some (.int .i64 s.mode):=(HP.out w' hSw.1).cell 2;go_simp) hS ?_
 refine Bf (i:=6) (v:=(.pointer (some ⟨p,0,none⟩))) rfl hS ?_
 refine Bf (i:=7) (v:=(.pointer (some ⟨p,0,none⟩))) rfl hS ?_
 refine Bf (i:=8) (v:=(.pointer (some ⟨p,32,none⟩))) rfl hS ?_
 refine Fs (i:=9) (v:=(.agg #[.int .i64 s.part.first,.int .i64 s.part.reg,.int .i64 s.part.op,.int .i64 s.part.second,.int .i64 s.part.wait])) rfl (fun w' hSw=>by exact Dh 34 (.tmp 16) rfl p 32 5 rfl (HP.out _ hSw.1) (by kernel_rfl) Tryz.underlying34 rfl (by kernel_rfl)) hS ?_
 refine Bf (i:=10) (v:=(.pointer (some ⟨p,0,none⟩))) rfl hS ?_
 refine Bf (i:=11) (v:=(.pointer (some ⟨p,0,none⟩))) rfl hS ?_
 refine Bf (i:=12) (v:=(.pointer (some ⟨p,30,none⟩))) rfl hS ?_
 refine Fs (i:=13) (v:=(.agg #[.int .i64 s.fk,.int .i64 s.fa])) rfl (fun w' hSw=>by exact Dh 36 (.tmp 20) rfl p 30 2 rfl (HP.out _ hSw.1) (by kernel_rfl) Tryz.underlying36 rfl (by kernel_rfl)) hS ?_
 refine Bf (i:=14) (v:=(.pointer (some ⟨p,0,none⟩))) rfl hS ?_
 refine Bf (i:=15) (v:=(.pointer (some ⟨p,0,none⟩))) rfl hS ?_
 refine Bf (i:=16) (v:=(.pointer (some ⟨p,43,none⟩))) rfl hS ?_
 refine Bf (i:=17) (v:=(.pointer (some ⟨p,43,none⟩))) rfl hS ?_
 refine Fs (i:=18) (v:=(.slice A8 n8 c8)) rfl (fun w' hSw=>by have e0:w'.cell? ⟨p,43,none⟩=some (.slice A8 n8 c8):=((HP.out w' hSw.1).cell 43).trans (congrArg some HV.out.1);go_simp) hS ?_
 refine Bf (i:=19) (v:=(.int .i64 (n8:Int))) rfl hS ?_
 refine Bf (i:=20) (v:=(.pointer (some ⟨p,0,none⟩))) rfl hS ?_
 refine Bf (i:=21) (v:=(.pointer (some ⟨p,0,none⟩))) rfl hS ?_
 refine Bf (i:=22) (v:=(.pointer (some ⟨p,55,none⟩))) rfl hS ?_
 refine Fs (i:=23) (v:=(.bool s.over)) rfl (fun w' hSw=>by have e0:w'.cell? ⟨p,55,none⟩=some (.bool s.over):=(HP.out w' hSw.1).cell 55;go_simp) hS ?_
 refine Bf (i:=24) (v:=(.pointer (some ⟨p,0,none⟩))) rfl hS ?_
 refine Bf (i:=25) (v:=(.pointer (some ⟨p,0,none⟩))) rfl hS ?_
 refine Bf (i:=26) (v:=(.pointer (some ⟨p,53,none⟩))) rfl hS ?_
 refine Bf (i:=27) (v:=(.pointer (some ⟨p,53,none⟩))) rfl hS ?_
 refine Fs (i:=28) (v:=(.slice A9 n9 k9)) rfl (fun w' hSw=>by have e0:w'.cell? ⟨p,53,none⟩=some (.slice A9 n9 k9):=((HP.out w' hSw.1).cell 53).trans (congrArg some HV.out.2);go_simp) hS ?_
 refine Bf (i:=30) (v:=(.pointer (some ⟨p,0,none⟩))) rfl hS ?_
 refine Bf (i:=31) (v:=(.pointer (some ⟨p,0,none⟩))) rfl hS ?_
 refine Bf (i:=32) (v:=(.pointer (some ⟨p,53,none⟩))) rfl hS ?_
 refine Bf (i:=33) (v:=(.pointer (some ⟨p,54,none⟩))) rfl hS ?_
 refine Fs (i:=34) (v:=(.int .i64 s.rat)) rfl (fun w' hSw=>by have e0:w'.cell? ⟨p,54,none⟩=some (.int .i64 s.rat):=(HP.out w' hSw.1).cell 54;go_simp) hS ?_
 refine Bf (i:=36) (v:=(.pointer (some ⟨p,0,none⟩))) rfl hS ?_
 refine Bf (i:=37) (v:=(.pointer (some ⟨p,0,none⟩))) rfl hS ?_
 refine Bf (i:=38) (v:=(.pointer (some ⟨p,51,none⟩))) rfl hS ?_
 refine Fs (i:=39) (v:=(.int .i64 s.off)) rfl (fun w' hSw=>by have e0:w'.cell? ⟨p,51,none⟩=some (.int .i64 s.off):=(HP.out w' hSw.1).cell 51;go_simp) hS ?_
 generalize Wa.drew=cur at*
 iterate 3
  all_goals (first|refine wpAnyH_ready (rs:=[1,41]) (by decide +kernel) (by simp) (Ai rfl (fun K hK=>?_) (Ai rfl (fun K hK=>?_) Am))|refine wpAnyH_ready (rs:=[29,41]) (by decide +kernel) (by simp) (Ai rfl (fun K hK=>?_) (Ai rfl (fun K hK=>?_) Am))|refine wpAnyH_ready (rs:=[1]) (by decide +kernel) (by simp) (Ai rfl (fun K hK=>?_) Am)|refine wpAnyH_ready (rs:=[29]) (by decide +kernel) (by simp) (Ai rfl (fun K hK=>?_) Am)|refine wpAnyH_ready (rs:=[41]) (by decide +kernel) (by simp) (Ai rfl (fun K hK=>?_) Am))
  all_goals (first
   |(
    refine Cg rfl 35 #[.slice A9 n9 k9] rfl (by kernel_rfl) (fun u w'=>∃B d,u=.slice B n9 d∧Av w' (w.heap.size+1) B n9 d s.row) ((HCL.out _ hS.1).mono fun e w' ⟨u,h1,⟨B,d,h2,h3⟩,h4⟩=>⟨u,h1,⟨B,d,h2,h3.lower hS.2.lt⟩,h4⟩) ?_
    rintro u w3 ⟨B,d,rfl,hR⟩ hE;refine hK.out _ _ ⟨hS.1.trans hE,hS.2.ext hE⟩ (fun hS'=>?_)
    clear hK K;replace hoL:=Av.ext hoL hE
    try replace hb5:=Aq.ext hb5 hE
    replace hS:=hS';clear hS' hE
    try simp only[Ac,Aa,Ab,Ap,A7,Ad,Ae]
    refine Bf (i:=35) (v:=(.agg #[.slice B n9 d,.int .i64 s.rat])) rfl hS ?_
    refine Fs (i:=40) (v:=(.agg (Jl A n c B n9 d n8 s))) rfl (fun w' hSw=>by exact fJ 43 _ rfl (Jl A n c B n9 d n8 s) (by kernel_rfl)) hS ?_
    skip)
   |(
    refine Cg rfl 34 #[.pointer (some ⟨p,0,none⟩)] rfl (by kernel_rfl) (fun u w'=>∃A n c,u=.agg #[.slice A n c,.int .i64 s.at_]∧Av w' (w.heap.size+1) A n c s.tx) ((HLN.out _ hS.1).mono fun e w' ⟨u,h1,⟨B,n,d,h2,h3⟩,h4⟩=>⟨u,h1,⟨B,n,d,h2,h3.lower hS.2.lt⟩,h4⟩) ?_
    rintro u w2 ⟨A,n,c,rfl,hoL⟩ hE;refine hK.out _ _ ⟨hS.1.trans hE,hS.2.ext hE⟩ (fun hS'=>?_)
    clear hK K
    try replace hb5:=Aq.ext hb5 hE
    replace hS:=hS';clear hS' hE
    try simp only[Ac,Aa,Ab,Ap,A7,Ad,Ae])
   |(
    go_simp
    refine hK.out _ _ ⟨hS.1.to_alloc (.cells E5 43),hS.2.ext (An.alloc _ _)⟩ (fun hS'=>?_)
    clear hK K;have hE:=Lz hS'.1
    try replace hoL:=Av.ext hoL hE
    try replace hR:=Av.ext hR hE
    obtain⟨g5,hg5,hb5⟩:=yD hS'.1;have hz5:=hS.1.hsize;have hn5:=hS.2.lt;rw[←hg5]at hz5 hn5 ⊢;clear hg5;replace hS:=hS';clear hS' hE;generalize World.alloc _ _=nx at*
    try simp only[Ac,Aa,Ab,Ap,A7,Ad,Ae]))
 all_goals
  refine wpAnyH_ready (rs:=[42]) (by decide +kernel) (by simp) (Ai rfl (fun K hK=>?_) Am)
  refine C9 rfl 43 (.tmp 3) (.tmp 48) rfl g5 0 (Jl A n c B n9 d n8 s) rfl rfl 43 E5 hb5 (by kernel_rfl) (by show 0+44≤44;decide) (lC _ _ _ _ _ _ _ _) ?_
  rw[Qh (show(Jl A n c B n9 d n8 s).size=E5.size from rfl)]
  have hn5':g5≠w.heap.size:=by omega
  have hS':_∧_:=⟨hS.1.setRow hz5 (Jl A n c B n9 d n8 s),hS.2.setRow_other (Jl A n c B n9 d n8 s) (fun e=>hn5' e.symm)⟩
  have hoL':Av _ (w.heap.size+1) A n c s.tx:=Vo hoL hb5 (by decide) (Jl A n c B n9 d n8 s)
  have hR':Av _ (w.heap.size+1) B n9 d s.row:=Vo hR hb5 (by decide) (Jl A n c B n9 d n8 s)
  have hb5':=hb5.setRow (Jl A n c B n9 d n8 s);clear hoL hR hb5 hS;generalize World.setRow _ _ _=w5 at*;refine hK.out _ _ hS' (fun hS=>?_)
  clear hK K hS';refine wpAnyH_done (by kernel_rfl) ?_ _
  have hlt5:=hb5'.lt;have HS5:=A6 hS;have HB5:=A6 hb5';have HO5:Hid (Bk w5 (w.heap.size+1) (.slice A n c) s.tx∧Bk w5 (w.heap.size+1) (.slice B n9 d) s.row):=A6 ⟨⟨A,n,c,rfl,hoL',Bd.nocap' hoL',by have:=hoL'.ints.len;omega⟩,B,n9,d,rfl,hR',Bd.nocap' hR',hz9⟩
  clear hS hb5' hoL' hR';go_upto_region 2 with fail
  go_upto_region 3 with(refine Pg rfl 38 (.tmp 51) rfl p 3 rfl 100 (Mn v s) (Mc v.r) (0,0) _ (HP.out _ HS5.out.1) (uH v s) Tryz.underlying38 rfl (by kernel_rfl) ?_)
  go_loopw [53] (fun s53 wx=>∃(i:Nat) (a:Array Value),i≤27∧s53=.int .i64 i∧Hid (a.size=44∧(∀j,j<i→∃x,a[10+j]? = some x∧Bk wx (w.heap.size+1) x (s.rl j))∧(∀j,(j<10∨10+i≤j)→a[j]? = (Jl A n c B n9 d n8 s)[j]?))∧Hid (Aq wx g5 43 a)∧Hid (Aq wx w.heap.size 43 E5)∧Hid (An w wx)∧Hid (Bk wx (w.heap.size+1) (.slice A n c) s.tx∧Bk wx (w.heap.size+1) (.slice B n9 d) s.row)) (fun s53 _=>27-(intOf s53).toNat)
  case atStart=>exact⟨0,Jl A n c B n9 d n8 s,by omega,rfl,A6 ⟨rfl,fun j hj=>absurd hj (Nat.not_lt_zero j),fun _ _=>rfl⟩,HB5,A6 HS5.out.2,A6 HS5.out.1,HO5⟩
  case round=>
   clear HB5 HS5 HO5;obtain⟨i,a,hi7,rfl,Ha,Hb1,Hb2,He,HO⟩:=hrel;by_cases hlt:i<27
   ·obtain⟨x,hx1,A5,n5,c5,rfl,hI,hA5,hn55⟩:=(H.out.ext He.out).ses.dat.here.regs.2 i hlt
    have hix:=Wj hlt hx1;have HC:=A6 (D3 hI.ints hA5 hn55);clear hx1 hI;go_wp2_with fail
    refine HC.out.mono ?_
    rintro e w2 ⟨B5,d5,rfl,hO,hB,he2⟩;have Hb1':=A6 (Aq.ext Hb1.out he2);have Hb2':=A6 (Aq.ext Hb2.out he2);have HON:Hid (Bk w2 (w.heap.size+1) (.slice B5 n5 d5) (s.rl i)):=A6 ⟨B5,n5,d5,rfl,Bd.lower hO Hb2.out.lt,hB,hn55⟩;have He2:=A6 (He.out.trans he2);have Ha2:Hid (a.size=44∧(∀j,j<i→∃x,a[10+j]? = some x∧Bk w2 (w.heap.size+1) x (s.rl j))∧(∀j,(j<10∨10+i≤j)→a[j]? = (Jl A n c B n9 d n8 s)[j]?)):=A6 ⟨Ha.out.1,fun j hj=>by obtain⟨x,h1,h2⟩:=Ha.out.2.1 j hj;exact⟨x,h1,h2.ext he2⟩,Ha.out.2.2⟩
    have HO2:Hid (Bk w2 (w.heap.size+1) (.slice A n c) s.tx∧Bk w2 (w.heap.size+1) (.slice B n9 d) s.row):=A6 ⟨HO.out.1.ext he2,HO.out.2.ext he2⟩;have hfr:=Hb1'.out.frozen (10+i);have hc2:w2.cell? ⟨g5,10+i,none⟩=some (.slice none 0 0):=by rw[Hb1'.out.cell (10+i),Ha2.out.2.2 (10+i) (.inr (Aj _)),lB _ _ _ _ _ _ _ _ i hlt]
    clear HC hO hB he2 Ha Hb1 Hb2 He hA5 hn55 HO hix;go_wp2_with fail
    go_roundw
    case rel=>
     refine⟨i+1,a.setIfInBounds (10+i) (.slice B5 n5 d5),by omega,by go_num,A6 ⟨by simpa using Ha2.out.1,fun j hj=>?_,fun j hj=>?_⟩,A6 (Hb1'.out.set_ (10+i) _),?_,A6 (He2.out.setCell hz5 _),A6 ⟨Rc HO2.out.1 Hb1'.out (by decide),Rc HO2.out.2 Hb1'.out (by decide)⟩⟩
     ·by_cases hji:j=i
      ·subst hji
       exact⟨_,by rw[J2z,if_pos (by rw[Ha2.out.1];omega)],Rc HON.out Hb1'.out (by decide)⟩
      ·obtain⟨x,h1,h2⟩:=Ha2.out.2.1 j (by omega)
       exact⟨x,by rw[E3 (by omega)];exact h1,Rc h2 Hb1'.out (by decide)⟩
     ·exact I113
     ·exact A6 (Bn Hb2'.out (by omega) (10+i) _)
    case measure=>simp[intOf];omega
   ·obtain rfl:i=27:=by omega
    obtain⟨AL,nL,cL,SL,snL,scL,PL,pnL,pcL,eL,hLn,_⟩:=(H.out.ext He.out).ses.dat.here.his;have eh0:v.h0=.slice AL nL cL:=by
     have:=congrArg (fun x=>match x with|Value.agg a=>a[0]? |_=>none) eL
     simp only[Kx,Co]at this;exact Option.some.inj this
    have HL:=A6 hLn.lns;have hnl:s.hi.lines.length=nL:=hLn.lns.len;have d37:wr.cell? ⟨p,37,none⟩=some (.slice AL nL cL):=(((HP.out wr He.out).cell 37)).trans (congrArg some eh0);have HN:=A6 hnl;have HEL:Hid (Value.agg (Kx v s.hi)=_):=A6 eL;have hnL:nL≤1000:=by omega
    clear eL hLn eh0 hnl;go_wp2_with fail
    obtain⟨w6,hw6⟩:∃x,x=wr:=⟨_,rfl⟩;have HLow0:Hid (∀k,k<wr.heap.size→k≠g5→wr.heap[k]? = wr.heap[k]?):=A6 fun _ _ _=>rfl
    have hg56:g5<wr.heap.size:=Hb1.out.lt;have HW6:Hid (a.size=44∧(∀j,j<27→∃x,a[10+j]? = some x∧Bk wr (w.heap.size+1) x (s.rl j)∧x.ownBlock≠some g5)∧(∀j,(j<10∨10+27≤j)→a[j]? = (Jl A n c B n9 d n8 s)[j]?)∧(Bk wr (w.heap.size+1) (.slice A n c) s.tx∧(Ak A n c).ownBlock≠some g5)∧(Bk wr (w.heap.size+1) (.slice B n9 d) s.row∧(Ak B n9 d).ownBlock≠some g5)∧Aq wr w.heap.size 43 E5):=
     A6 ⟨Ha.out.1,fun j hj=>by obtain⟨x,h1,h2⟩:=Ha.out.2.1 j hj;exact⟨x,h1,h2,dB h2 Hb1.out (by decide)⟩,Ha.out.2.2,⟨HO.out.1,dB HO.out.1 Hb1.out (by decide)⟩,⟨HO.out.2,dB HO.out.2 Hb1.out (by decide)⟩,Hb2.out⟩
    have Hx0:=He;have HA0:Hid (a.size=44∧a[38]? = some (.slice none 0 0)∧∀j,j≠38→a[j]? = a[j]?):=A6 ⟨Ha.out.1,Ha.out.2.2 38 (.inr (by omega)),fun _ _=>rfl⟩
    have hb60:wr.heap.size≤wr.heap.size:=Aj _;rw[←hw6]at HW6;have hrw:wr.heap.size=w6.heap.size:=by rw[hw6]
    rw[←hw6]at HLow0;have HLow1:Hid (∀k,k<w6.heap.size→k≠g5→wr.heap[k]? = w6.heap[k]?):=A6 fun k _ _=>by rw[hw6]
    rw[hrw]at hg56;have hb61:w6.heap.size≤wr.heap.size:=by omega
    have hzw6:w.heap.size≤w6.heap.size:=by have:=He.out.hsize;omega
    clear hw6 HLow0 hb60 hrw Ha HO Hb2 He hi7 hlt hlt5 hn5;go_loopw [69] (fun s69 wx=>∃(k:Nat) (O:Option Addr) (e:Nat) (a':Array Value),k≤nL∧s69=.int .i64 k∧Hid (a'.size=44∧a'[38]? = some (.slice O k e)∧∀j,j≠38→a'[j]? = a[j]?)∧Hid (Aq wx g5 43 a')∧Hid (∀k,k<w6.heap.size→k≠g5→wx.heap[k]? = w6.heap[k]?)∧Hid (An w wx)∧Hid (Gv wx w6.heap.size O k e (s.hi.lines.take k))∧w6.heap.size≤wx.heap.size) (fun s69 _=>nL-(intOf s69).toNat)
    case atStart=>exact⟨0,none,0,a,by omega,rfl,HA0,Hb1,HLow1,Hx0,A6 (by simpa using Gv.nil _ _),hb61⟩
    case round=>
     clear HA0 Hb1 HLow1 Hx0 hb61 HL d37;obtain⟨k,O,e,a',hk,rfl,HA,Hb1,HLow,Hx,HO,hsz⟩:=hrel;by_cases hlt:k<nL
     ·obtain⟨AL',nL',cL',_,_,_,_,_,_,eL,hLn,_⟩:=(H.out.ext Hx.out).ses.dat.here.his
      have hLn':cP wr AL nL cL s.hi.lines:=by
       have:=congrArg (fun x=>match x with|Value.agg a=>a[0]? |_=>none) (HEL.out.symm.trans eL)
       simp only[Co]at this;injection this with this;injection this with e1 e2 e3;subst e1 e2 e3;exact hLn.lns
      obtain⟨ad,x,rfl,hc,B4,m,q,rfl,hI,hB,hm⟩:=hLn'.at_ hlt;obtain⟨xs,hO1,hO2,_⟩:=HO.out;have HC:=A6 (D3 (hI.ext (An.drew wr)) hB hm);have a1:wr.drew.cell? ⟨g5,38,none⟩=some (.slice O k e):=(Hb1.out.cell 38).trans HA.out.2.1;have HO1:=A6 hO1;have HO2:=A6 hO2;clear hI hO1 hO2 HO hLn eL hLn';go_upto_region 10 with fail
      refine Hp (S:=fun w'=>w'.cell? ⟨g5,38,none⟩=some (.slice O k e)) 5 (by kernel_rfl) a1 (fun hS=>?_)
      refine Bg (i:=0) (v:=(.pointer (some ⟨g5,38,none⟩))) rfl (by kernel_rfl) (by kernel_rfl) (by kernel_rfl) (by decide) (fun _ _ _ h=>h) (Or.inl ⟨by rfl,by(intro w' hSw;go_simp)⟩) (fun hl=>by first|exact hS|exact absurd hl (by decide)) ?_
      try simp only[Ac,Aa,Ab,Ap,A7,Ad,Ae]
      refine Fm (i:=1) (v:=(.slice O k e)) rfl (by kernel_rfl) (by kernel_rfl) (by kernel_rfl) (by kernel_rfl) (by decide) (by kernel_rfl) (fun _ _ _ h=>h) (Or.inl ⟨by rfl,by(intro w' hSw;go_simp)⟩) hS ?_
      try simp only[Ac,Aa,Ab,Ap,A7,Ad,Ae]
      refine Bg (i:=2) (v:=(.slice B4 m q)) rfl (by kernel_rfl) (by kernel_rfl) (by kernel_rfl) (by decide) (fun _ _ _ h=>h) (Or.inl ⟨by rfl,by(intro w' hSw;go_simp)⟩) (fun hl=>by first|exact hS|exact absurd hl (by decide)) ?_
      try simp only[Ac,Aa,Ab,Ap,A7,Ad,Ae]
      refine Hu (i:=3) (by decide +kernel) rfl (fun K hK=>?_)
      refine Jq rfl 35 #[.slice B4 m q] (by kernel_rfl) (fun v w'=>∃B2 d2,v=.slice B2 m d2∧Av w' wr.drew.heap.size B2 m d2 (gL s.hi.lines k)∧(B2=none→d2=0)∧An wr.drew w') (HC.out.mono fun e w' ⟨B2,d2,h1,h2⟩=>⟨_,h1,B2,d2,rfl,h2⟩) ?_
      rintro v w2 ⟨B2,q2,rfl,hoc,hnc,hec⟩;have b1:=hec.cell a1;have b2:(w2.alloc (.cells #[.slice B2 m q2] 25)).cell? ⟨g5,38,none⟩=some (.slice O k e):=An.cell (An.alloc _ _) b1;refine hK.out _ _ b1 (fun hS=>?_)
      clear hK K
      try simp only[Ac,Aa,Ab,Ap,A7,Ad,Ae]
      refine Hu (i:=4) (by decide +kernel) rfl (fun K hK=>?_)
      go_simp
      refine hK.out _ _ b2 (fun _=>?_)
      clear hK K
      try simp only[Ac,Aa,Ab,Ap,A7,Ad,Ae]
      refine Fn (i:=5) (by decide +kernel) rfl (by decide +kernel) (fun K hK=>?_)
      refine P7 rfl (.tmp 74) (.tmp 77) 39 rfl w w6.heap.size 25 i0 _ 1 24 Tryz.underlying39 hi hz0 hz1 hz2 rfl (by decide) O k e xs rfl (Bd.ext HO1.out ((An.drew wr).trans hec)) #[.slice B2 m q2] rfl (by simp[Bz]) rfl (by unfold maxLen;omega) (by omega) (Hx.out.trans ((An.drew wr).trans hec)) hzw6 (Ar hsz (Ar (An.hsize (An.drew wr)) hec.hsize)) ?_
      intro O3 d3 w3 hO3 hgr hor hx3;have hb3:=Aq.grown (Aq.ext Hb1.out ((An.drew wr).trans hec)) hgr (fun e=>by have:=(Bd.blk HO1.out _ e.symm).1;omega)
      have c0:w3.cell? ⟨g5,38,none⟩=some (.slice O k e):=(hb3.cell 38).trans HA.out.2.1;have f0:=hb3.frozen 38;refine hK.out _ _ ?_
      clear hK K
      try simp only[Ac,Aa,Ab,Ap,A7,Ad,Ae]
      refine Bg (i:=6) (v:=(.pointer (some ⟨g5,38,none⟩))) rfl (by kernel_rfl) (by kernel_rfl) (by kernel_rfl) (by decide) (fun _ _ _ h=>h) (Or.inl ⟨by rfl,by(intro w' hSw;go_simp)⟩) (fun hl=>by first|exact hS|exact absurd hl (by decide)) ?_
      try simp only[Ac,Aa,Ab,Ap,A7,Ad,Ae]
      refine Fn (i:=7) (by decide +kernel) rfl (by decide +kernel) (fun K hK=>?_)
      go_simp
      refine hK.out _ _ ?_
      clear hK K;refine Lq (by kernel_rfl) ?_ _
      have he2:=(An.drew wr).trans hec;have hz2':wr.heap.size≤w2.heap.size:=he2.hsize;have hOb:∀g,(Ak O k e).ownBlock=some g→g<wr.heap.size:=fun g hg=>(Bd.blk HO1.out g hg).2
      have hOl:∀g,(Ak O k e).ownBlock=some g→w6.heap.size≤g:=fun g hg=>(Bd.blk HO1.out g hg).1
      have hn0:∀g,(Ak B2 m q2).ownBlock=some g→wr.heap.size≤g∧g<w2.heap.size:=fun g hg=>Bd.blk hoc g hg
      have hrow:(Ak B2 m q2).ownBlock=none∨(Ak B2 m q2).ownBlock≠(Ak O k e).ownBlock:=by
       exact I58
      have hrow':(Ak B2 m q2).ownBlock=none∨(Ak B2 m q2).ownBlock≠(Ak O3 (k+1) d3).ownBlock:=by
       exact I32
      have hnew:Bk w3 w6.heap.size (.slice B2 m q2) (gL s.hi.lines k):=⟨B2,m,q2,rfl,Bd.kept (Bd.lower hoc (Ar hsz (Aj _))) hgr hrow,hnc,hm⟩;have hold:T7 w3 w6.heap.size (Ak O3 (k+1) d3).ownBlock xs (s.hi.lines.take k):=(HO2.out.ext he2).grown hgr hor;have hall:Gv w3 w6.heap.size O3 (k+1) d3 (s.hi.lines.take (k+1)):=⟨xs++[.slice B2 m q2],by simpa using hO3,by rw[iI (by rw[HN.out];exact hlt)];exact hold.snoc hnew hrow',Bd.nocap' hO3⟩
      have HLn:=A6 (hall.setCell (p:=⟨g5,38,none⟩) hg56 (.slice O3 (k+1) d3));have HB1:=A6 (hb3.set_ 38 (.slice O3 (k+1) d3));have HX3:=A6 (hx3.setCell (p:=⟨g5,38,none⟩) hz5 (.slice O3 (k+1) d3));have HLow3:Hid (∀j,j<w6.heap.size→j≠g5→(w3.setCell ⟨g5,38,none⟩ (.slice O3 (k+1) d3)).heap[j]? = w6.heap[j]?):=A6 fun j hj hne=>by
       rw[Cn (fun e=>hne e),hgr.block j (by omega) (fun e=>by have:=hOl j e.symm;omega),Below.block he2 j (by omega)]
       exact HLow.out j hj hne
      have hsz3:w6.heap.size≤(w3.setCell ⟨g5,38,none⟩ (.slice O3 (k+1) d3)).heap.size:=by
       have:=(hb3.set_ 38 (.slice O3 (k+1) d3)).lt;have h1:=hgr.size;rw[World.size_setCell];omega
      have HA3:Hid ((a'.setIfInBounds 38 (.slice O3 (k+1) d3)).size=44∧(a'.setIfInBounds 38 (.slice O3 (k+1) d3))[38]? = some (.slice O3 (k+1) d3)∧∀j,j≠38→(a'.setIfInBounds 38 (.slice O3 (k+1) d3))[j]? = a[j]?):=
       A6 ⟨by simpa using HA.out.1,by rw[J2z,if_pos (by rw[HA.out.1];omega)],fun j hj=>by rw[E3 (by omega)];exact HA.out.2.2 j hj⟩
      clear hO3 hgr hor hx3 hb3 c0 f0 hoc hnc hec b1 b2 he2 hz2' hOb hOl hn0 hrow hrow' hnew hold hall a1 HO1 HO2 Hb1 Hx HC hc hB hm hsz HA HLow;go_wp2_with fail
      go_roundw
      case rel=>
       refine⟨_,_,_,_,_,_,_,_,_,_,_,_,_,?_,rfl⟩
       exact⟨k+1,O3,d3,_,by omega,by go_num,HA3,HB1,HLow3,HX3,HLn,hsz3⟩
      case measure=>simp[intOf];omega
     ·obtain rfl:k=nL:=by omega
      rw[List.take_of_length_le (by rw[HN.out];exact Aj _)]at HO
      have hbl:=(HP.out wr Hx.out);have d39:wr.cell? ⟨p,39,none⟩=some (.int .i64 s.hi.at_):=hbl.cell 39;have l37:∀j,10+27≤j→j≠38→a'[j]? = (Jl A n c B n9 d n8 s)[j]? := fun j h1 h2=>(HA.out.2.2 j h2).trans (HW6.out.2.2.1 j (.inr h1))
      have l10:∀j,j<10→a'[j]? = (Jl A n c B n9 d n8 s)[j]? := fun j h1=>(HA.out.2.2 j (by omega)).trans (HW6.out.2.2.1 j (.inl h1))
      have g39:wr.cell? ⟨g5,39,none⟩=some (.int .i64 0):=(Hb1.out.cell 39).trans (l37 39 (by omega) (by omega))
      have f39:=Hb1.out.frozen 39;have hg2:Aq wr w.heap.size 43 E5:=(HLow.out _ (by have:=HW6.out.2.2.2.2.2.lt;omega) (fun e=>hn5' e.symm)).trans HW6.out.2.2.2.2.2
      have hb1':=Hb1.out.set_ 39 (.int .i64 s.hi.at_);have hg2':=Bn hg2 hn5' 39 (.int .i64 s.hi.at_);have hz39:(a'.setIfInBounds 39 (.int .i64 s.hi.at_)).size=44:=by simpa using HA.out.1
      have low:∀{y:Value} {l:List Int},Bk w6 (w.heap.size+1) y l→y.ownBlock≠some g5→Bk (wr.setCell ⟨g5,39,none⟩ (.int .i64 s.hi.at_)) (w.heap.size+1) y l:=fun h1 h2=>
       Rc (uJ h1 (Aj _) h2 HLow.out) Hb1.out (by decide)
      have ne39:∀j,j≠39→(a'.setIfInBounds 39 (.int .i64 s.hi.at_))[j]? = a'[j]? := fun j hj=>E3 (by omega)
      have H43:Fe (wr.setCell ⟨g5,39,none⟩ (.int .i64 s.hi.at_)) (w.heap.size+1) (a'.setIfInBounds 39 (.int .i64 s.hi.at_)) s:=
       {
        size:=hz39
        text:=⟨_,(ne39 0 (by omega)).trans (l10 0 (by omega)),low HW6.out.2.2.2.1.1 HW6.out.2.2.2.1.2⟩
        at_:=(ne39 1 (by omega)).trans (l10 1 (by omega))
        mode:=(ne39 2 (by omega)).trans (l10 2 (by omega))
        part:=⟨(ne39 3 (by omega)).trans (l10 3 (by omega)),(ne39 4 (by omega)).trans (l10 4 (by omega)),(ne39 5 (by omega)).trans (l10 5 (by omega)),(ne39 6 (by omega)).trans (l10 6 (by omega)),(ne39 7 (by omega)).trans (l10 7 (by omega))⟩
        find:=⟨(ne39 8 (by omega)).trans (l10 8 (by omega)),(ne39 9 (by omega)).trans (l10 9 (by omega))⟩
        regs:=fun i hi=>by
         obtain⟨x,h1,h2,h3⟩:=HW6.out.2.1 i hi;exact⟨x,((ne39 (10+i) (by omega)).trans (HA.out.2.2 (10+i) (by omega))).trans h1,low h2 h3⟩
        past:=by rw[hn8];exact(ne39 37 (by omega)).trans (l37 37 (by omega) (by omega))
        lines:=⟨O,k,e,(ne39 38 (by omega)).trans HA.out.2.1,(HO.out.setCell (p:=⟨g5,39,none⟩) hg56 _).lower (by omega)⟩
        where_:=by rw[J2z,if_pos (by rw[HA.out.1];omega)]
        over:=(ne39 40 (by omega)).trans (l37 40 (by omega) (by omega))
        row:=⟨_,(ne39 41 (by omega)).trans (l37 41 (by omega) (by omega)),low HW6.out.2.2.2.2.1.1 HW6.out.2.2.2.2.1.2⟩
        rat:=(ne39 42 (by omega)).trans (l37 42 (by omega) (by omega))
        off:=(ne39 43 (by omega)).trans (l37 43 (by omega) (by omega)) }
      have HX9:=Hx.out.setCell (p:=⟨g5,39,none⟩) hz5 (.int .i64 s.hi.at_);have hone:=H43.one;have HH:=A6 (Bb H43 HX9);clear l37 l10 ne39 low H43 HX9 hg2 hbl HW6 HLow HO HA Hb1 Hx hsz;go_upto_region 13 with fail
      clear d39 g39 f39;generalize wr.setCell ⟨g5,39,none⟩ (.int .i64 s.hi.at_)=w9 at*;generalize a'.setIfInBounds 39 (.int .i64 s.hi.at_)=cs at*;have hns:E5.size=cs.size:=by rw[hz39];rfl
      go_wp2_with (first|(refine wpList_load_row rfl 43 (.tmp 3) rfl g5 rfl 43 cs (0,0) _ hb1' Tryz.underlying43 rfl (Ju hz39) ?_)|(refine wpList_store_row rfl 43 (.tmp 2) (.tmp 87) rfl w.heap.size cs rfl rfl 43 E5 hg2' (Ju hz39) hns hone ?_))
      have hres:=hg2'.setRow cs;refine bodyPost_ret (v:=.agg cs) ?_ rfl ⟨cs,rfl,(HH.out.1.setRow (Nat.lt_succ_self _) cs).lower (Nat.le_succ _),HH.out.2.setRow (Aj _) cs⟩
      exact results_cell_row rfl _ _ w.heap.size 43 _ _ _ rfl hres Tryz.underlying43 rfl (Ju hz39)
theorem Xi (h:cs.size=2):(Tryz.prog.info? 41).map (·.size)=some cs.size:=by rw[h];kernel_rfl
theorem lJ {g:Nat}{x:Int}(hb:Aq w g 3 #[.int .i64 x]):Bl w (some ⟨g,0,none⟩) 1 1 [x]:=by
 refine⟨rfl,Aj _,by unfold maxLen;omega,fun _=>⟨_,rfl,fun j u hj=>?_⟩⟩
 have e1:(⟨g,0,none⟩:Addr).add (j*1)=⟨g,j,none⟩:=by simp[Addr.add_lit]
 have e2:(⟨g,0,none⟩:Addr).add j=⟨g,j,none⟩:=by simp[Addr.add_lit]
 first
  |rw[e1,hb.cell j]
  |rw[e2,hb.cell j]
 simpa using hj
theorem bV {n:Int}(h:n<2∨120<n):
 Calls Tryz.prog 52 #[.int .i64 n] w fun e w'=>e=.returned (.tuple #[.agg #[.slice none 0 0,.int .i64 0],.int .i64 1])∧An w w':=by
 have hx:=A6 (An.alloc w (.cells #[.slice none 0 0,.int .i64 0] 41));have hb:=A6 (Aq.new w 41 #[.slice none 0 0,.int .i64 0]);have h3:(decide (n<2)=true)∨(decide (n<2)=false∧decide (n>120)=true):=by
  by_cases h1:n<2
  ·exact .inl (by simpa using h1)
  ·exact .inr ⟨by simpa using h1,by simp;omega⟩
 clear h;rcases h3 with b1|⟨b1,b2⟩
 all_goals
  go_enter Tryz.func52,Tryz.ntmps52
  go_upto_region 2 with fail
  change Code.wp _ _ _ _ (w.alloc (.cells #[.slice none 0 0,.int .i64 0] 41));generalize w.alloc (.cells #[.slice none 0 0,.int .i64 0] 41)=wa at*;have e0:wa.cell? ⟨w.heap.size,0,none⟩=some (.slice none 0 0):=hb.out.cell 0;have e1:wa.cell? ⟨w.heap.size,1,none⟩=some (.int .i64 0):=hb.out.cell 1;have f0:=hb.out.frozen 0;have f1:=hb.out.frozen 1;go_wp2_with fail
  refine bodyPost_ret (v:=.tuple #[.agg #[.slice none 0 0,.int .i64 0],.int .i64 1]) ?_ rfl ⟨rfl,Dq hx.out (Aj _) _ _⟩
  exact Gn rfl _ _ w.heap.size 41 _ _ _ _ rfl rfl (Dr hb.out (.slice none 0 0) (.int .i64 0)) Tryz.underlying41 rfl (Xi rfl)
theorem dL {n:Nat}(h1:2≤n)(h2:n≤120):
 Calls Tryz.prog 52 #[.int .i64 n] w fun e w'=>∃B d,e=.returned (.tuple #[.agg #[.slice B n d,.int .i64 0],.int .i64 0])∧Av w' w.heap.size B n d (Au n 32)∧An w w':=by
 have hx:=An.alloc w (.cells #[.slice none 0 0,.int .i64 0] 41);have hb:=Aq.new w 41 #[.slice none 0 0,.int .i64 0];have b1:decide ((n:Int)<2)=false:=by simp;omega
 have b2:decide ((n:Int)>120)=false:=by simp;omega
 go_enter Tryz.func52,Tryz.ntmps52
 go_upto_region 3 with fail
 change Code.wp _ _ _ _ (w.alloc (.cells #[.slice none 0 0,.int .i64 0] 41));obtain⟨wa,hwa⟩:∃x,x=w.alloc (.cells #[.slice none 0 0,.int .i64 0] 41):=⟨_,rfl⟩;have hsz:wa.heap.size=w.heap.size+1:=by rw[hwa];exact Cl _ _
 rw[←hwa]at hx hb ⊢;clear hwa;have hx2:=hx.to_alloc (.cells #[.int .i64 32] 3);have hb2:=hb.ext (An.alloc wa (.cells #[.int .i64 32] 3));have hsz2:(wa.alloc (.cells #[.int .i64 32] 3)).heap.size=w.heap.size+2:=by rw[Cl,hsz]
 have hrd:Bl (wa.alloc (.cells #[.int .i64 32] 3)) (some ⟨wa.heap.size,0,none⟩) 1 1 [32]:=lJ (Aq.new wa 3 #[.int .i64 32]);have HR:=A6 (Xj (n:=n) hrd (by omega))
 have HX:=A6 (Bb hx2 (Bb hb2 hsz2));clear hx hb hx2 hb2 hrd hsz2 hsz;go_wp2_with fail
 refine HR.out.mono ?_
 rintro e w2 ⟨⟨g,rfl,hO⟩,he⟩;have hx3:=HX.out.1.trans he;have hb3:=HX.out.2.1.ext he;have HZ3:=A6 (HX.out.2.2);clear HR HX;have e0:w2.cell? ⟨w.heap.size,0,none⟩=some (.slice none 0 0):=hb3.cell 0;have e1:w2.cell? ⟨w.heap.size,1,none⟩=some (.int .i64 0):=hb3.cell 1;have f0:=hb3.frozen 0;have f1:=hb3.frozen 1;have HH:=A6 (Bb hx3 (Bb hb3 hO));clear hx3 hb3 hO;go_wp2_with fail
 have hO3:Av _ w.heap.size (some ⟨g,0,none⟩) n n (Au n 32):=Bd.lower (Jd HH.out.2.2 HH.out.2.1 (by decide) (.slice (some ⟨g,0,none⟩) n n) (.int .i64 0)) (by have:=HZ3.out;omega)
 refine bodyPost_ret (v:=.tuple #[.agg #[.slice (some ⟨g,0,none⟩) n n,.int .i64 0],.int .i64 0]) ?_ rfl ⟨_,_,rfl,hO3,Dq HH.out.1 (Aj _) _ _⟩
 exact Gn rfl _ _ w.heap.size 41 _ _ _ _ rfl rfl (Dr HH.out.2.1 (.slice (some ⟨g,0,none⟩) n n) (.int .i64 0)) Tryz.underlying41 rfl (Xi rfl)
theorem pF:Nj []=.nil:=by
 unfold Nj;rw[if_pos (show([]:List Int).length≤4096 from Aw _)]
 rfl
theorem aG (w:World):Bv w none (Nj []):=by
 rw[pF]
 rfl
def Jj (most:Int)(W:Nat):PS:=⟨[],0,1,fun _=>[],0,0,Pt.zero,⟨[],most,0,[],[],false⟩,[],[],none,none,[],false,[],0,W,Au W 32,0,false,[],[]⟩
def Zp (R:Value):SV:=⟨none,none,fun _=>nl,nl,nl,nl,nl,none,none,nl,R,nl,nl⟩
theorem Di.made {w w1:World}{B:Option Addr}{W d b:Nat}(he:An w w1)(hb:w.heap.size≤b)(ho:Av w1 b B W d (Au W 32))(hW:W≤120):
 ∃col,Di (w1.alloc (.cells (Mn (Zp (.slice B W d)) (Jj most W)) 100)) col w1.heap.size (Zp (.slice B W d)) (Jj most W)∧∀k,col k≠0→w.heap.size≤k:=by
 have hlt:∀k,k<w1.heap.size→k<(w1.alloc (.cells (Mn (Zp (.slice B W d)) (Jj most W)) 100)).heap.size:=fun k hk=>by rw[Cl];omega
 have hsz:w1.heap.size<(w1.alloc (.cells (Mn (Zp (.slice B W d)) (Jj most W)) 100)).heap.size:=by rw[Cl];omega
 have hws:=he.hsize;refine⟨fun k=>if k=w1.heap.size then 7 else if w.heap.size≤k∧k<w1.heap.size then 1 else 0,⟨⟨Aq.new _ _ _,if_pos rfl,?_,trivial,fun k hk=>?_⟩,⟨none,0,0,[],rfl,Bd.nil _ _ _ _,rfl,nofun,fun M w' ha hk i hi=>absurd hi (Nat.not_lt_zero i)⟩,⟨none,0,0,rfl,Av.nil _ _,nofun⟩⟩,fun k hk=>?_⟩
 ·have hreg:Bk (w1.alloc (.cells (Mn (Zp (.slice B W d)) (Jj most W)) 100)) 0 (.slice B W d) (Au W 32):=Bk.ext (Bk.lower ⟨B,W,d,rfl,ho,Bd.nocap' ho,by omega⟩ (Aw b)) (An.alloc _ _)
  have hown:=fun g (hg:(Value.slice B W d).ownBlock=some g)=>Bd.blk ho g hg
  intro M w' ha hk;refine⟨aG w',aG w',⟨rfl,fun i hi=>⟨nl,Pq _ i hi,Bk.nil w' 0⟩⟩,⟨none,0,0,none,0,0,none,0,0,rfl,Gv.nil _ _,Bk.nil w' 0,Bk.nil w' 0⟩,aT w',trivial,Bk.nil w' 0,?_⟩
  obtain⟨A,n,c,e,h1,h2,h3⟩:=hreg;injection e with e1 e2 e3;subst e1 e2 e3;refine⟨B,W,d,rfl,Bd.same h1 fun k hk'=>ha.block k (Bd.blk h1 k hk').2 (hk k (Bd.blk h1 k hk').2 ?_),h2,h3⟩
  have:=hown k hk'
  show(if k=w1.heap.size then 7 else if w.heap.size≤k∧k<w1.heap.size then 1 else 0)=1
  rw[if_neg (by omega),if_pos (by omega)]
 ·have hk:(if k=w1.heap.size then 7 else if w.heap.size≤k∧k<w1.heap.size then 1 else 0)≠0:=hk
  split at hk
  ·rename_i e;rw[e];exact hsz
  ·split at hk
   ·exact hlt k (by omega)
   ·exact absurd rfl hk
 ·have hk:(if k=w1.heap.size then 7 else if w.heap.size≤k∧k<w1.heap.size then 1 else 0)≠0:=hk
  split at hk
  ·rename_i e;rw[e];exact hws
  ·split at hk
   ·omega
   ·exact absurd rfl hk
theorem oZ {most W:Int}(h:(most<1∨50<most)∨(W<2∨120<W)):
 Calls Tryz.prog 30 #[.int .i64 most,.int .i64 W] w fun e w'=>∃x:Int,e=.returned (.tuple #[.pointer none,.int .i64 x])∧x≠0∧An w w':=by
 have h3:(decide (most<1)=true)∨(decide (most<1)=false∧decide (most>50)=true)∨(decide (most<1)=false∧decide (most>50)=false∧(W<2∨120<W)):=by
  by_cases h1:most<1
  ·exact .inl (by simpa using h1)
  ·by_cases h2:50<most
   ·exact .inr (.inl ⟨by simpa using h1,by simpa using h2⟩)
   ·exact .inr (.inr ⟨by simpa using h1,by simp;omega,by omega⟩)
 clear h;rcases h3 with b1|⟨b1,b2⟩|⟨b1,b2,hW⟩
 ·exact I75
 ·exact I75
 ·have HT:=A6 (bV (w:=w) hW)
  clear hW;go_enter Tryz.func30,Tryz.ntmps30
  go_wp2_with fail
  refine HT.out.mono ?_
  rintro e w1 ⟨rfl,he⟩;have HX:=A6 (he.to_alloc (.cells #[.slice none 0 0,.int .i64 0] 41));clear he;go_wp2_with fail
  go_ret2
  exact⟨1,rfl,by decide,HX.out⟩
theorem uB (h1:1≤most)(h2:most≤50)(h3:2≤W)(h4:W≤120):
 Calls Tryz.prog 30 #[.int .i64 most,.int .i64 W] w fun e w'=>∃p col v,e=.returned (.tuple #[.pointer (some ⟨p,0,none⟩),.int .i64 0])∧Di w' col p v (Jj most W)∧An w w'∧∀k,col k≠0→w.heap.size≤k:=by
 have b1:decide (most<1)=false:=by simp;omega
 have b2:decide (most>50)=false:=by simp;omega
 have HT:=A6 (dL (w:=w) h3 h4);go_enter Tryz.func30,Tryz.ntmps30
 go_wp2_with fail
 refine HT.out.mono ?_
 rintro e w1 ⟨B,d,rfl,hO,he⟩;have hE1:=An.alloc w1 (.cells #[.slice B W d,.int .i64 0] 41);have hb1:=Aq.new w1 41 #[.slice B W d,.int .i64 0];have hx1:=he.trans hE1;have hO1:Av _ w.heap.size B W d (Au W 32):=Av.ext hO hE1;clear HT hO he hE1;go_upto_region 6 with fail
 change Code.wp _ _ _ _ (w1.alloc (.cells #[.slice B W d,.int .i64 0] 41));generalize w1.alloc (.cells #[.slice B W d,.int .i64 0] 41)=w2 at*;have e0:w2.cell? ⟨w1.heap.size,0,none⟩=some (.slice B W d):=hb1.cell 0;have e1:w2.cell? ⟨w1.heap.size,1,none⟩=some (.int .i64 0):=hb1.cell 1;have HM:=A6 (Di.made (most:=most) hx1 (Aj _) hO1 h4);have HX:=A6 (hx1.to_alloc (.cells (Mn (Zp (.slice B W d)) (Jj most W)) 100));clear hb1 hx1 hO1;go_wp2_with (first
  |(refine Great.wpList_boxTo rfl 100 (.tmp 26) rfl _ rfl _ rfl (Mn (Zp (.slice B W d)) (Jj most W)) (by kernel_rfl) ?_)
  |(refine wpList_buildTo rfl 100 _ rfl _ rfl (Mn (Zp (.slice B W d)) (Jj most W)) (by kernel_rfl) ?_))
 go_ret2
 obtain⟨col,hm,hc⟩:=HM.out;exact⟨_,col,_,rfl,hm,HX.out,hc⟩
structure J2r (W V:Nat)(s:PS):Prop where
 line:tE s
 vis:s.vis.length≤V
 row:Yi W s
theorem oX {W V:Nat}(h:Yi W s)(hv:s.vis.length≤V)(hl:tE (F5 s k)):Yi W (F5 s k)∧(F5 s k).vis.length≤V∧Yi W (G6 s k)∧(G6 s k).vis.length≤V+1000:=by
 have hw:=nU (s:=s) (k:=k);unfold cN at hw;injection hw with e1 hw;injection hw with e2 hw;injection hw with e3 hw;injection hw with e4 hw;injection hw with e5 e6;have h1:Yi W (F5 s k):=h.same e1 e2 e3 e4;refine⟨h1,by rw[e5];exact hv,?_⟩
 unfold G6;split
 ·exact⟨h,by omega⟩
 ·refine⟨h1.show hl,?_⟩
  obtain⟨k1,k2,k3,k4,k5,k6,k7⟩:=dA hl.lo hl.hi hl.len h1.off h1.lo h1.hi;have h2:=h1.show hl
  show((F5 s k).vis++Eh _ _ _ _).length≤_
  rw[List.length_append,e5];have hr:=h2.row;have hlen:=h2.len;have hr:Ta (J6 (F5 s k).tx (Ph (F5 s k).at_ (F5 s k).off (F5 s k).width) (F5 s k).width.toNat) W ((F5 s k).at_-Ph (F5 s k).at_ (F5 s k).off (F5 s k).width):=hr;have hlen:(J6 (F5 s k).tx (Ph (F5 s k).at_ (F5 s k).off (F5 s k).width) (F5 s k).width.toNat).length=W:=hlen;have h3:=Xe (a:=(F5 s k).row) (st:=(F5 s k).rat.toNat) (at_:=((F5 s k).at_-Ph (F5 s k).at_ (F5 s k).off (F5 s k).width).toNat) h1.len (by rw[Yy hr.2.2.1];exact hr) hlen (by have:=h1.row.2.2.2.1;omega)
  omega
theorem Yj.lt {ah:List Nat}(h:Yj ah):∀x∈ah,x<256:=by
 have hw:∀a,2≤Gt a→a<256:=fun a h=>by unfold Gt at h;(repeat' split at h)<;>omega
 have hf1:∀a b,Ed [a] b→b<256:=fun a b h=>by have:=cW.1 h;have:=Yq a;omega
 have hf2:∀a b c,Ed [a,b] c→c<256:=fun a b c h=>by have:=nH.1 h;omega
 match ah,h with
 |[],_=>intro x hx;cases hx
 |[a],h=>intro x hx;rw[List.mem_singleton.1 hx];exact hw a h
 |[a,b],h=>
  intro x hx;simp only[List.mem_cons,List.not_mem_nil,or_false]at hx;rcases hx with rfl|rfl
  ·exact hw _ (by have:=h.1;omega)
  ·exact hf1 _ _ h.2
 |[a,b,c],h=>
  intro x hx;simp only[List.mem_cons,List.not_mem_nil,or_false]at hx;rcases hx with rfl|rfl|rfl
  ·exact hw _ (by have:=h.1;omega)
  ·exact hf1 _ _ h.2.1
  ·exact hf2 _ _ _ h.2.2
structure Nv (W N:Nat)(s:PS):Prop where
 inv:∃T,Ec N N T s
 win:Yi W s
 pend:Yj s.pend
theorem uW (h1:1≤most)(h2:most≤50)(h3:2≤W)(h4:W≤120):Nv W 0 (Jj most W):=
 ⟨⟨0,⟨Fl.nil,⟨Aw _,Mg 0,Mg 0⟩,fun _=>Fl.nil,Aw _,(fun x hx=>by cases hx),⟨Fl.nil,Aw _⟩,
  ⟨h1,h2,(by show(0:Int)≤most;omega),Mg 0,Mg 0,(fun x hx=>by cases hx),⟨Fl.nil,Aw _⟩,Aw _⟩,Aw _,nofun,nofun,.inr (.inl rfl),(fun e=>by rcases e with e|e<;>cases e),Hm,Aj _⟩⟩,
  ⟨rfl,h3,h4,⟨Mg 0,show(0:Int)≤200 by decide⟩,⟨h3,h4,Mg 0,Int.natCast_nonneg _,fun k hk=>by
   unfold Nu
   show 32≤gI (Au W 32) k∧gI (Au W 32) k≠127
   have:gI (Au W 32) k=32:=by unfold gI;rw[List.getElem?_replicate];simp[hk]
   rw[this];decide⟩,List.length_replicate⟩,trivial⟩
noncomputable def Ky (s:PS)(b:ByteArray):PS:=C8 (Gx s (F3 s.pend (Ao b)).ah) (F3 s.pend (Ao b)).out
theorem aJ {W N T V:Nat}(h1:Ec N N T s)(h2:Yi W s)(h3:s.vis.length≤V)(hk:Qn k):
 Ec (N+1) (N+1) (T+N+1) (G6 s k)∧Yi W (G6 s k)∧(G6 s k).vis.length≤V+1000∧J2r W V (F5 s k):=by
 have j:=h1.key hk;obtain⟨w1,w2,w3,w4⟩:=oX (k:=k) h2 h3 j.line;refine⟨?_,w3,w4,j.line,w2,w1⟩
 unfold G6;split
 ·exact h1.mono (by omega) (by omega) (by omega)
 ·exact⟨j.tx,⟨j.line.len,j.line.lo,j.line.hi⟩,j.rl,j.past,j.pasts,j.first,j.hist,j.ask,j.last,j.now,j.mode,j.idle,j.part,j.told⟩
theorem aI:∀(ks:List Int) {N T V:Nat} {s:PS},Ec N N T s→Yi W s→s.vis.length≤V→(∀k∈ks,Qn k)→
 (∃T' V',T'≤T+ks.length*(N+ks.length+1)∧V'≤V+ks.length*1000∧Ec (N+ks.length) (N+ks.length) T' (C8 s ks)∧Yi W (C8 s ks)∧(C8 s ks).vis.length≤V'):=by
 intro ks
 induction ks with
 |nil=>intro N T V s h1 h2 h3 _;exact⟨T,V,by simp,by simp,h1,h2,h3⟩
 |cons k ks ih=>
  intro N T V s h1 h2 h3 h4;obtain⟨a1,a2,a3,_⟩:=aJ (k:=k) h1 h2 h3 (h4 k List.mem_cons_self);obtain⟨T',V',ht,hv,i1,i2,i3⟩:=ih a1 a2 a3 (fun x hx=>h4 x (List.mem_cons_of_mem _ hx))
  have e:C8 s (k::ks)=C8 (G6 s k) ks:=rfl;rw[e,List.length_cons];have hm:(ks.length+1)*(N+(ks.length+1)+1)=ks.length*(N+1+ks.length+1)+(N+ks.length+2):=by
   rw[Nat.add_mul,Nat.one_mul,show N+(ks.length+1)+1=N+1+ks.length+1 by omega]
   omega
  refine⟨T',V',by omega,by omega,?_,i2,i3⟩
  rw[show N+(ks.length+1)=N+1+ks.length by omega]
  exact i1
theorem jU (s:PS)(k:Int):(G6 s k).pend=s.pend:=by
 have hw:=nU (s:=s) (k:=k);unfold cN at hw;injection hw with e1 hw;injection hw with e2 hw;injection hw with e3 hw;injection hw with e4 hw;injection hw with e5 e6;unfold G6;split
 ·rfl
 ·exact e6
theorem Vj:∀(ks:List Int) (s:PS),(C8 s ks).pend=s.pend:=by
 intro ks
 induction ks with
 |nil=>intro s;rfl
 |cons k ks ih=>intro s;exact(ih (G6 s k)).trans (jU s k)
theorem Nv.feed {W N:Nat}{b:ByteArray}(h:Nv W N s)(hN:N≤1900000)(hs:b.size≤4096):
 Nv W (N+(b.size+1)) (Ky s b)∧(Ky s b).told.length≤(b.size+1)*1905000∧(Ky s b).vis.length≤(b.size+1)*1000∧
 (∀i,i<(F3 s.pend (Ao b)).out.length→(C8 (Gx s (F3 s.pend (Ao b)).ah) ((F3 s.pend (Ao b)).out.take i)).over=false→
  GOk (C8 (Gx s (F3 s.pend (Ao b)).ah) ((F3 s.pend (Ao b)).out.take i))∧VOk (F5 (C8 (Gx s (F3 s.pend (Ao b)).ah) ((F3 s.pend (Ao b)).out.take i)) (gI (F3 s.pend (Ao b)).out i))):=by
 obtain⟨T,hT⟩:=h.inv;obtain⟨r1,r2,r3⟩:=U3 (Ao b) s.pend h.pend;have hlen1:(F3 s.pend (Ao b)).out.length≤b.size+1:=by
  unfold F3;have:(Ao b).length=b.size:=Dx b;omega
 have hlen:(F3 s.pend (Ao b)).out.length≤4097:=by omega
 have hch:∀k∈(F3 s.pend (Ao b)).out,Qn k:=fun k hk=>⟨(r2 k hk).1,(r2 k hk).2.1⟩
 have hpe:Yj (F3 s.pend (Ao b)).ah:=r1;unfold Ky;generalize F3 s.pend (Ao b)=mc at*;obtain⟨s0,hs0⟩:∃x,x=Gx s mc.ah:=⟨_,rfl⟩;have i0:Ec N N 0 s0:=by
  rw[hs0];exact⟨hT.tx,⟨hT.line.len,hT.line.lo,hT.line.hi⟩,hT.rl,hT.past,hT.pasts,hT.first,hT.hist,hT.ask,hT.last,hT.now,hT.mode,hT.idle,hT.part,Aj _⟩
 have w0:Yi W s0:=by rw[hs0];exact h.win.same rfl rfl rfl rfl
 have v0:s0.vis.length≤0:=by rw[hs0];exact Aj _
 have p0:s0.pend=mc.ah:=by rw[hs0];rfl
 rw[←hs0];clear hs0;have bd:∀n:Nat,n≤4097→n*(N+n+1)≤n*1905000:=fun n hn=>Nat.mul_le_mul_left n (by omega)
 obtain⟨T',V',t1,t2,t3,t4,t5⟩:=aI mc.out i0 w0 v0 hch;have hb1:=bd _ hlen;have hb3:=J2x 1905000 hlen1;have hb4:=J2x 1000 hlen1;have hpend:∀ks,(C8 s0 ks).pend=s0.pend:=fun ks=>Vj ks s0
 refine⟨⟨⟨T',t3.mono (by omega) (by omega) (Aj _)⟩,t4,by rw[hpend,p0];exact hpe⟩,Ar t3.told (by omega),Ar t5 (by omega),fun i hi _=>?_⟩
 have hti:(mc.out.take i).length=i:=by rw[List.length_take];omega
 obtain⟨T2,V2,u1,u2,u3,u4,u5⟩:=aI (mc.out.take i) i0 w0 v0 (fun k hk=>hch k (List.mem_of_mem_take hk))
 rw[hti]at u1 u2 u3;have hb2:=bd i (by omega)
 have hb5:i*1905000≤4097*1905000:=J2x _ (by omega)
 have hb6:i*1000≤4097*1000:=J2x _ (by omega)
 refine⟨u3.gok (by omega) (by omega),?_⟩
 obtain⟨_,_,_,x1,x2,x3⟩:=aJ (k:=gI mc.out i) u3 u4 u5 (hch _ (nZ hi));exact⟨x1,by omega,W,x3⟩
theorem Di.alt {M:Nat→Prop}{p:Nat}{v:SV}(h:Di w col p v s)(ha:Gz M w w')(hM:∀k,k<w.heap.size→M k→col k=0):Di w' col p v s:=by
 have hm:∀c,c≠0→∀k,k<w.heap.size→M k→col k≠c:=fun c hc k h1 h2 e=>hc (e▸hM k h1 h2)
 have hp:¬M p:=fun hm'=>by have:=hM p h.ses.blk.lt hm';have:=h.ses.own;omega
 exact⟨⟨ha.blk h.ses.blk hp,h.ses.own,h.ses.dat.turn ha (hm 1 (by decide)) fun _ _=>rfl,h.ses.now.turn ha (fun k h1 h2=>⟨hm 2 (by decide) k h1 h2,hm 3 (by decide) k h1 h2⟩) fun _ _=>rfl,fun k hk=>Nat.lt_of_lt_of_le (h.ses.dom k hk) ha.size⟩,h.told.turn ha (fun k h1 h2=>⟨hm 4 (by decide) k h1 h2,hm 5 (by decide) k h1 h2⟩) fun _ _=>rfl,h.vis.turn ha (hm 6 (by decide)) fun _ _=>rfl⟩
def gB (ts:List ByteArray)(i:Nat):ByteArray:=ts[i]?.getD ByteArray.empty
noncomputable def J3 (s0:PS)(ts:List ByteArray)(i:Nat):PS:=(ts.take i).foldl Ky s0
noncomputable def tB (s0:PS)(ts:List ByteArray):Nat→List (Int×List Int)
 |0=>[]
 |i+1=>tB s0 ts i++(J3 s0 ts (i+1)).told
noncomputable def tA (s0:PS)(ts:List ByteArray):Nat→List Int
 |0=>[]
 |i+1=>tA s0 ts i++(J3 s0 ts (i+1)).vis
def Zn (ts:List ByteArray):Nat→Nat
 |0=>0
 |i+1=>Zn ts i+((gB ts i).size+1)
theorem yP (ts:List ByteArray){i n:Nat}(h:i≤n):Zn ts i≤Zn ts n:=by
 induction n with
 |zero=>rw[show i=0 by omega];exact Aj _
 |succ n ih=>
  by_cases e:i=n+1
  ·rw[e];exact Aj _
  ·exact Nat.le_trans (ih (by omega)) (Nat.le_add_right _ _)
def Te (s0:PS)(ts:List ByteArray)(i:Nat):Prop:=(J3 s0 ts i).over=false∧(gB ts i).size≤4096
theorem kE (s0:PS)(ts:List ByteArray){i:Nat}(hi:i<ts.length):J3 s0 ts (i+1)=Ky (J3 s0 ts i) (gB ts i):=by
 have h:ts.take (i+1)=ts.take i++[gB ts i]:=by
  rw[List.take_add_one];unfold gB;rw[Bm hi]
  rfl
 unfold J3;rw[h,List.foldl_append]
 rfl
def EvR (w:World)(b:Nat)(E:Value)(evs:List (Int×List Int)):Prop:=∃A n c xs,E=.slice A n c∧Bd w b 48 2 A n c xs∧evs.length=n∧Mf w xs evs
theorem Mf.one {l:List (Int×List Int)}(h:Mf w xs l)(hl:xs.length=l.length*2):∀u∈xs,u.oneCell'=true:=by
 intro u hu;obtain⟨j,hj,rfl⟩:=List.getElem_of_mem hu;obtain⟨y,h1,h2,A,n,c,rfl,_⟩:=h (j/2) (by omega)
 rcases Nat.mod_two_eq_zero_or_one j with e|e
 ·rw[show j/2*2=j by omega,Bm hj]at h1
  injection h1 with h1;rw[h1];rfl
 ·rw[show j/2*2+1=j by omega,Bm hj]at h2
  injection h2 with h2;rw[h2];rfl
theorem Mf.app {xs ys:List Value}{l k:List (Int×List Int)}(h:Mf w xs l)(h':Mf w ys k)(hl:xs.length=l.length*2):Mf w (xs++ys) (l++k):=by
 intro i hi;rw[Ba]at hi;rcases Nat.lt_or_ge i l.length with hlt|hge
 ·obtain⟨y,h1,h2,h3⟩:=h i hlt
  have hg:gV (l++k) i=gV l i:=by unfold gV;rw[Bp hlt]
  rw[hg];exact⟨y,by rw[Bp (by omega)];exact h1,by rw[Bp (by omega)];exact h2,h3⟩
 ·obtain⟨y,h1,h2,h3⟩:=h' (i-l.length) (by omega)
  have hg:gV (l++k) i=gV k (i-l.length):=by unfold gV;rw[Bu hge]
  rw[hg];refine⟨y,?_,?_,h3⟩
  ·rw[Bu (by omega),show i*2-xs.length=(i-l.length)*2 by omega];exact h1
  ·rw[Bu (by omega),show i*2+1-xs.length=(i-l.length)*2+1 by omega];exact h2
structure Mb (w:World)(b:Nat)(col:Nat→Nat)(E S:Value)(evs:List (Int×List Int))(vis:List Int):Prop where
 ev:∃A n c xs F,E=.slice A n c∧Bd w b 48 2 A n c xs∧evs.length=n∧Hw F w (fun x=>Mf x xs evs)∧∀k,F k→k<w.heap.size∧(col k=0∨col k=5)∧E.ownBlock≠some k∧S.ownBlock≠some k
 evc:∀k,E.ownBlock=some k→col k=0
 vi:∃A n c,S=.slice A n c∧Av w b A n c vis
 vic:∀k,S.ownBlock=some k→col k=0
theorem Mb.nil (w:World)(b:Nat)(col:Nat→Nat):Mb w b col nl nl [] []:=
 ⟨⟨none,0,0,[],fun _=>False,rfl,Bd.nil _ _ _ _,rfl,fun M w' ha hk i hi=>absurd hi (Nat.not_lt_zero i),fun k hk=>hk.elim⟩,nofun,⟨none,0,0,rfl,Av.nil _ _⟩,nofun⟩
theorem Mb.ext {E S:Value}(h:Mb w b col E S evs vis)(he:An w w'):Mb w' b col E S evs vis:=by
 obtain⟨⟨A,n,c,xs,F,rfl,h1,h2,h3,h4⟩,h5,⟨A',n',c',rfl,h6⟩,h7⟩:=h;exact⟨⟨A,n,c,xs,F,rfl,Bd.ext h1 he,h2,h3.ext he,fun k hF=>⟨Bq (h4 k hF).1 he.hsize,(h4 k hF).2⟩⟩,h5,⟨A',n',c',rfl,Av.ext h6 he⟩,h7⟩
theorem Mb.feed {col col':Nat→Nat}{E S:Value}(h:Mb w b col E S evs vis)(t:Li w col w' col')
 (hk:∀k,k<w.heap.size→col k=4∨col k=5∨col k=6→w'.heap[k]? = w.heap[k]? ∧ col' k=0):Mb w' b col' E S evs vis:=by
 obtain⟨⟨A,n,c,xs,F,rfl,h1,h2,h3,h4⟩,h5,⟨A',n',c',rfl,h6⟩,h7⟩:=h;have zero:∀k,k<w.heap.size→col k=0→col' k=0:=fun k hk h0=>Decidable.byContradiction fun hn=>t.2 k hk hn h0
 have ha:Gz (fun k=>col k≠0∧col k≠1∧col k≠5) w w':=⟨t.1.os,t.1.tape,t.1.output,t.1.size,fun k hk' hn=>by
  by_cases e:col k=5
  ·exact(hk k hk' (.inr (.inl e))).1
  ·exact t.1.block k hk' fun hn'=>hn ⟨hn'.1,hn'.2,e⟩,t.1.node⟩
 refine⟨⟨A,n,c,xs,F,rfl,Bd.same h1 fun k hk'=>ha.block k (Bd.blk h1 k hk').2 fun hn=>hn.1 (h5 k hk'),h2,h3.alt ha fun k hk' hF hn=>?_,fun k hF=>?_⟩,fun k hk'=>zero k (Bd.blk h1 k hk').2 (h5 k hk'),⟨A',n',c',rfl,Bd.same h6 fun k hk'=>ha.block k (Bd.blk h6 k hk').2 fun hn=>hn.1 (h7 k hk')⟩,fun k hk'=>zero k (Bd.blk h6 k hk').2 (h7 k hk')⟩
 ·rcases(h4 k hF).2.1 with e|e
  ·exact hn.1 e
  ·exact hn.2.2 e
 ·obtain⟨g1,g2,g3⟩:=h4 k hF
  refine⟨Bq g1 t.1.size,.inl ?_,g3⟩
  rcases g2 with e|e
  ·exact zero k g1 e
  ·exact(hk k g1 (.inr (.inl e))).2
theorem Xl {b e z n c g:Nat}(h:Bd w b e z A n c xs)(hg:(Ak A n c).ownBlock=some g):∃cs,Aq w g e cs:=by
 obtain⟨_,⟨hv,_⟩|⟨g',cap,cur,hv,_,hb,_⟩⟩:=h
 ·rw[hv]at hg;cases hg
 ·rw[hv]at hg
  have hg:some g'=some g:=hg;injection hg with hg;subst hg;exact⟨_,hb⟩
theorem U5 {b b' e e' z z' n c n' c':Nat}{A A':Option Addr}(h:Bd w b e z A n c xs)(h':Bd w b' e' z' A' n' c' xs')(hne:e≠e'):(Ak A n c).ownBlock=none∨(Ak A n c).ownBlock≠(Ak A' n' c').ownBlock:=by
 cases hb:(Ak A n c).ownBlock with
 |none=>exact .inl rfl
 |some g=>
  refine .inr fun e1=>?_
  obtain⟨cs,h1⟩:=Xl h hb;obtain⟨cs',h2⟩:=Xl h' e1.symm;exact hne (h1.inj h2).1
theorem Mb.tells {b n m c c2:Nat}{A A2:Option Addr}{S:Value}{evs told:List (Int×List Int)}{F:Nat→Prop}
 (h:Mb w b col (.slice A n c) S evs vis) (hown:Bd w b 48 2 A n c xs) (hn:evs.length=n) (hD:Hw F w (fun x=>Mf x xs evs)) (hF:∀k,F k→k<w.heap.size∧(col k=0∨col k=5)∧(Ak A n c).ownBlock≠some k∧S.ownBlock≠some k)
 (hT:Hw (fun k=>col k=5) w fun x=>Mf x xs' told) (hm:told.length=m) (hc5:∀k,col k≠0→k<w.heap.size)
 (hO:Bd w' b 48 2 A2 (n+m) c2 (xs++xs')) (hgr:w.grownBy w' (Ak A n c).ownBlock)
 (hor:(Ak A2 (n+m) c2).ownBlock=(Ak A n c).ownBlock∨(Ak A2 (n+m) c2).ownBlock=some w.heap.size):
 Mb w' b col (.slice A2 (n+m) c2) S (evs++told) vis∧Gz (fun k=>(Ak A n c).ownBlock=some k) w w':=by
 have ha:=Gz.of_own hown hgr (by decide)
 obtain⟨_,h5,⟨A',n',c',rfl,h6⟩,h7⟩:=h;have ht:=U5 h6 hown (by decide)
 refine⟨⟨⟨A2,n+m,c2,xs++xs',fun k=>k<w.heap.size∧(F k∨col k=5),rfl,hO,by rw[Ba];omega,?_,fun k hk=>?_⟩,fun k hk=>?_,⟨A',n',c',rfl,Bd.kept h6 hgr ht⟩,h7⟩,ha⟩
 ·have h1:=((hD.mono (F':=fun k=>k<w.heap.size∧(F k∨col k=5)) fun k hk hf=>⟨hk,.inl hf⟩).and (hT.mono (F':=fun k=>k<w.heap.size∧(F k∨col k=5)) fun k hk hf=>⟨hk,.inr hf⟩)).imp (D':=fun x=>Mf x (xs++xs') (evs++told)) fun x hx=>hx.1.app hx.2 (by rw[hown.len,hn])
  refine h1.alt ha fun k hk hf hM=>?_
  rcases hf.2 with hf|hf
  ·exact(hF k hf).2.2.1 hM
  ·have:=h5 k hM;omega
 ·have hlt:k<w'.heap.size:=Bq hk.1 ha.size
  have hne2:(Ak A n c).ownBlock≠some k→(Ak A2 (n+m) c2).ownBlock≠some k:=fun h1 h2=>by
   rcases hor with e|e
   ·exact h1 (e.symm.trans h2)
   ·rw[e]at h2;injection h2 with h2;have:=hk.1;omega
  rcases hk.2 with hf|hf
  ·obtain⟨_,g2,g3,g4⟩:=hF k hf
   exact⟨hlt,g2,hne2 g3,g4⟩
  ·exact⟨hlt,.inr hf,hne2 fun e=>by have:=h5 k e;omega,fun e=>by have:=h7 k e;omega⟩
 ·rcases hor with e|e
  ·exact h5 k (e.symm.trans hk)
  ·exact I87
theorem xB:∀(f:Nat) {r:List Nat},(∀x∈r,x<256)→M8 f r=0→r.length≤f→∀out,∃o,J2 r ⟨[],out⟩=⟨[],o⟩:=by
 intro f
 induction f with
 |zero=>intro r _ _ hl out;obtain rfl:r=[]:=Dm (by omega);exact⟨out,rfl⟩
 |succ f ih=>
  intro r hb h hl out;by_cases h0:r.length=0
  ·obtain rfl:r=[]:=Dm h0
   exact⟨out,rfl⟩
  ·by_cases hg:Eg r=0
   ·obtain⟨_,h2,_⟩:=bP (f:=f) h0 hg
    rw[h2]at h;obtain⟨g1,g2,m,g3⟩:=nX hb hg;have hp:=Mz (Ex r);have hd0:∀c:Nat,r=Fg c++m→r.drop (Fg c).length=m:=fun c e=>by rw[e,List.drop_left]
    have hd:r.drop (Eu r)=m:=by rw[g2];exact hd0 _ g3
    have e1:∀c:Nat,El (c:Int)→r=Fg c++m→J2 r ⟨[],out⟩=J2 m ⟨[],out++[(c:Int)]⟩:=fun c hc e=>by rw[e,Rn,aO hc]
    rw[hd]at h;have hlm:m.length≤f:=by have:=congrArg List.length g3;rw[List.length_append]at this;omega
    obtain⟨o,ho⟩:=ih (fun x hx=>hb x (by rw[g3];exact List.mem_append_right _ hx)) h hlm (out++[(Ex r:Int)])
    exact⟨o,by rw[e1 _ g1 g3];exact ho⟩
   ·obtain⟨_,h2,_⟩:=bO (f:=f) h0 hg
    rw[h2]at h;exact absurd h hg
theorem rS {b:ByteArray}(hp:s.pend=[])(h:M8 b.size (Ao b)=0):(Ky s b).pend=[]:=by
 obtain⟨o,ho⟩:=xB b.size (Pm b) h (by rw[Dx];exact Nat.le_refl _) []
 unfold Ky;rw[Vj]
 show(F3 s.pend (Ao b)).ah=[]
 unfold F3;rw[hp,ho]
def Gs (s:PS):PS:={ s with off:=0,row:=[],rat:=0,vis:=[],part:=Pt.zero }
theorem Pv:∀(l:List Int) (a:Al),a.out.length≤(F8 a l).out.length∧a.wrong≤(F8 a l).wrong:=by
 intro l
 induction l with
 |nil=>exact fun a=>⟨Aj _,Aj _⟩
 |cons k l ih=>
  intro a;obtain⟨h1,h2⟩:=ih (Ft a k);have e:F8 a (k::l)=F8 (Ft a k) l:=rfl;have g1:a.out.length≤(Ft a k).out.length:=by
   show _≤(if(Cc a.p k).how=2 then a.out++[(Cc a.p k).c]else a.out).length
   split
   ·simp
   ·exact Aj _
  have g2:a.wrong≤(Ft a k).wrong:=by
   show _≤(if(Cc a.p k).how=3 then a.wrong+1 else a.wrong)
   split<;>omega
  rw[e];exact⟨Ar g1 h1,Ar g2 h2⟩
theorem rM:∀(l:List Int) (a:Al),Ey a.p=true→Ey (F8 a l).p=true:=by
 intro l
 induction l with
 |nil=>exact fun a h=>h
 |cons k l ih=>exact fun a h=>ih (Ft a k) (L6 (k:=k) h).1
theorem qW (hm:s.mode=0)(ho:s.over=false)(h:(Cc s.part k).how=1):G6 s k=Ns { s with part:=(Cc s.part k).p }:=by
 have hk:¬k<32:=fun e=>by rw[Lc e]at h;exact absurd h (by decide)
 unfold G6;rw[if_neg (by rw[ho];decide)]
 unfold F5;rw[if_neg (by omega),if_neg (by rw[hm];decide),if_neg (by omega),if_neg (by omega),if_neg (by rw[hm];decide)]
 unfold Qr;rw[if_neg (by rw[h];decide),if_neg (by rw[h];decide)]
theorem qX (hm:s.mode=0)(ho:s.over=false)(h:(Cc s.part k).how=2):G6 s k=Ns (Fc { s with part:=(Cc s.part k).p } (Cc s.part k).c):=by
 have hk:¬k<32:=fun e=>by rw[Lc e]at h;exact absurd h (by decide)
 unfold G6;rw[if_neg (by rw[ho];decide)]
 unfold F5;rw[if_neg (by omega),if_neg (by rw[hm];decide),if_neg (by omega),if_neg (by omega),if_neg (by rw[hm];decide)]
 unfold Qr;rw[if_pos h]
theorem pE:∀(l:List Int) {a:Al} {s:PS},s.mode=0→s.over=false→s.part=a.p→Ey a.p=true→(F8 a l).out.length=a.out.length→(F8 a l).wrong=a.wrong→
 Gs (C8 s l)=Gs s∧(C8 s l).part=(F8 a l).p:=by
 intro l
 induction l with
 |nil=>exact fun _ _ hp _ _ _=>⟨rfl,hp⟩
 |cons k l ih=>
  intro a s hm ho hp hc h1 h2;obtain⟨g1,g2⟩:=Pv l (Ft a k);obtain⟨q1,q2⟩:=Pv [k] a;have e:F8 a (k::l)=F8 (Ft a k) l:=rfl;have e1:F8 a [k]=Ft a k:=rfl;rw[e]at h1 h2;rw[e1]at q1 q2;have hk:=L6 (k:=k) hc;have n2:(Cc a.p k).how≠2:=fun e2=>by
   have:(Ft a k).out.length=a.out.length+1:=by unfold Ft;simp[e2]
   omega
  have n3:(Cc a.p k).how≠3:=fun e3=>by
   have:(Ft a k).wrong=a.wrong+1:=by unfold Ft;simp[e3]
   omega
  have n1:(Cc s.part k).how=1:=by rw[hp];rcases hk.2.1 with h|h|h;exact h;exact absurd h n2;exact absurd h n3
  have hs:=qW hm ho n1;obtain⟨r1,r2⟩:=ih (a:=Ft a k) (s:=G6 s k) (by rw[hs];exact hm) (by rw[hs];exact ho) (by rw[hs,hp];rfl) hk.1 (by omega) (by omega)
  refine⟨?_,r2⟩
  show Gs (C8 (G6 s k) l)=Gs s
  rw[r1,hs]
  rfl
theorem wO {ks:List Int}{c:Cm}(h:Hs ks=⟨[c],Pt.zero,0⟩)(hm:s.mode=0)(hp:s.part=Pt.zero)(ho:s.over=false):
 ∃s1:PS,Gs s1=Gs s∧C8 s ks=Ns (Fc s1 c):=by
 have hne:ks≠[]:=fun e=>by rw[e]at h;cases h
 obtain⟨ini,k,rfl⟩:∃ini k,ks=ini++[k]:=⟨ks.dropLast,ks.getLast hne,(List.dropLast_concat_getLast hne).symm⟩;unfold Hs at h;rw[Xz]at h;obtain⟨g1,g2⟩:=Pv [k] (F8 ⟨[],Pt.zero,0⟩ ini);have hc:=rM ini ⟨[],Pt.zero,0⟩ Hm;obtain⟨q1,q2⟩:=Pv ini ⟨[],Pt.zero,0⟩;have hrun:=pE ini (a:=⟨[],Pt.zero,0⟩) (s:=s) hm ho hp Hm;generalize F8 ⟨[],Pt.zero,0⟩ ini=b at*;have hw:=congrArg Al.wrong h;have ho2:=congrArg Al.out h;have hp2:=congrArg Al.p h;rw[h]at g1 g2;have g2:b.wrong≤0:=g2;have hk:=L6 (k:=k) hc;have hp2:(Cc b.p k).p=Pt.zero:=hp2;have hw:(if(Cc b.p k).how=3 then b.wrong+1 else b.wrong)=0:=hw;have ho2:(if(Cc b.p k).how=2 then b.out++[(Cc b.p k).c]else b.out)=[c]:=ho2;rcases hk.2.1 with e|e|e
 ·exact absurd hp2 (tZ hc e)
 ·rw[if_pos e]at ho2
  have hb:b.out=[]:=by
   cases hbo:b.out with
   |nil=>rfl
   |cons x l=>rw[hbo]at ho2;have:=congrArg List.length ho2;simp at this
  rw[hb]at ho2;have hcc:(Cc b.p k).c=c:=by simpa using ho2
  obtain⟨r1,r2⟩:=hrun (by rw[hb]) (by show b.wrong=0;omega)
  have m1:(C8 s ini).mode=0:=(show(Gs (C8 s ini)).mode=(Gs s).mode from congrArg PS.mode r1).trans hm
  have o1:(C8 s ini).over=false:=(show(Gs (C8 s ini)).over=(Gs s).over from congrArg PS.over r1).trans ho
  refine⟨{ C8 s ini with part:=Pt.zero },?_,?_⟩
  ·rw[←r1];rfl
  ·rw[Vk,qX m1 o1 (by rw[r2];exact e),r2,hcc,hp2]
 ·rw[if_pos e]at hw;omega
theorem J0w {ks:List Int}{c:Cm}(h:Hs ks=⟨[c],Pt.zero,0⟩)(hm:s.mode=0)(hp:s.part=Pt.zero)(ho:s.over=false)
 (hv:c.op≠0∨¬(c.verb=117∨c.verb=85∨c.verb=46∨c.verb=106∨c.verb=107∨c.verb=71∨c.verb=47∨c.verb=63∨c.verb=110∨c.verb=78)):
 (Nn s.tx s.rl s.at_ s.fk s.fa c=none→(C8 s ks).told=s.told++[(1,[])]∧(C8 s ks).tx=s.tx∧(C8 s ks).at_=s.at_)∧
 (∀d,Nn s.tx s.rl s.at_ s.fk s.fa c=some d→(C8 s ks).told=s.told∧(C8 s ks).tx=d.tx∧(C8 s ks).at_=d.at_∧(C8 s ks).rl=d.rl∧(C8 s ks).fk=d.fk∧(C8 s ks).fa=d.fa∧(C8 s ks).mode=d.md):=by
 obtain⟨s1,h1,h2⟩:=wO h hm hp ho;have e1:s1.tx=s.tx:=show(Gs s1).tx=(Gs s).tx from congrArg PS.tx h1
 have e2:s1.rl=s.rl:=show(Gs s1).rl=(Gs s).rl from congrArg PS.rl h1
 have e3:s1.at_=s.at_:=show(Gs s1).at_=(Gs s).at_ from congrArg PS.at_ h1
 have e4:s1.fk=s.fk:=show(Gs s1).fk=(Gs s).fk from congrArg PS.fk h1
 have e5:s1.fa=s.fa:=show(Gs s1).fa=(Gs s).fa from congrArg PS.fa h1
 have e6:s1.told=s.told:=show(Gs s1).told=(Gs s).told from congrArg PS.told h1
 have hc:Fc s1 c=doS s1 c:=by
  unfold Fc;by_cases hop:c.op≠0
  ·rw[if_pos hop]
  ·have hv:¬_:=hv.resolve_left hop
   rw[if_neg hop,if_neg (by omega),if_neg (by omega),if_neg (by omega),if_neg (by omega),if_neg (by omega),if_neg (by omega),if_neg (by omega),if_neg (by omega)]
 rw[h2,hc,←e1,←e2,←e3,←e4,←e5,←e6];unfold doS;refine⟨fun hd=>?_,fun d hd=>?_⟩
 ·rw[hd]
  exact⟨rfl,rfl,rfl⟩
 ·rw[hd]
  simp only;unfold Pi Pz Gd;split<;>(split<;>exact⟨rfl,rfl,rfl,rfl,rfl,rfl,rfl⟩)
theorem oU:∀(l:List Int) (out:List Int),(∀x∈l,El x)→J2 (M7 l) ⟨[],out⟩=⟨[],out++l⟩:=by
 intro l
 induction l with
 |nil=>intro out _;rw[List.append_nil];rfl
 |cons x l ih=>
  intro out h;have hx:=h x List.mem_cons_self;obtain⟨c,rfl⟩:∃c:Nat,x=c:=⟨x.toNat,by have:=hx;unfold El at this;omega⟩
  have e:M7 ((c:Int)::l)=Fg c++M7 l:=rfl;rw[e,Rn,aO hx,ih _ (fun y hy=>h y (List.mem_cons_of_mem _ hy)),List.append_assoc]
  rfl
end
