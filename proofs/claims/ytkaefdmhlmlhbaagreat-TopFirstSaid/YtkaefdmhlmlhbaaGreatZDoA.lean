/-
  Part ZDoA.
-/
import Derived.Test.YtkaefdmhlmlhbaaGreatZRegQ
import Derived.Test.YtkaefdmhlmlhbaaGreatZSeg
import Derived.Test.YtkaefdmhlmlhbaaGreatZTk
import Derived.Deep.RegionLaw
import Derived.Deep.DeepCutAuto
import Derived.Deep.CutRange
import Derived.Deep.CutBlock
import Derived.Deep.RegionHeld3
set_option maxRecDepth 100000
set_option maxHeartbeats 16000000
set_option linter.unusedVariables false
set_option linter.unusedSimpArgs false
namespace Go.Proofs.YtkaefdmhlmlhbaaGreat
open Go.RowKit
open _root_.Go.Proofs.Tryz
open Value renaming oneCell'→Bw,slice→Ak
open Act renaming put→Ao
open AllReadyH renaming cons→Ai,nil→Am
open _root_.And renaming intro→Au
open _root_.Array renaming getElem?_setIfInBounds_ne→Dl,getElem?_setIfInBounds_self→J7m
open _root_.List renaming getElem_cons_succ→Ab,getElem_cons_zero→Aa,getElem_toArray→Ac,length_cons→E3,setIfInBounds_toArray→A7,set_cons_succ→Ae,set_cons_zero→Ad
open _root_.Nat renaming le_refl→Aj,lt_succ_self→Bt
section
variable {A:Option Addr}{rs:Array Value}{k1 k2 k3 k4 k5 a:Int}{n c:Nat}{w:World}
theorem Xz (w:World)(hn:n≤200)(ha:0≤a)(wv:a≤max 0 ((n:Int)-1)):
 Calls prog 48 #[.agg #[.slice A n c,a]] w fun e w'=>e=.returned (.int .i64 0)∧An w w':=by
 have hx:=A6 (An.alloc w (.cells #[.slice A n c,a] 32));go_enter func48,ntmps48
 go_wp2_with fail
 all_goals
  go_ret
  exact⟨rfl,hx.out⟩
def Gq:Array Value:=#[.slice none 0 0,.int .i64 0,.slice none 0 0,.slice none 0 0,.slice none 0 0,.slice none 0 0,.slice none 0 0,.slice none 0 0,.slice none 0 0,.slice none 0 0,.slice none 0 0,.slice none 0 0,.slice none 0 0,.slice none 0 0,.slice none 0 0,.slice none 0 0,.slice none 0 0,.slice none 0 0,.slice none 0 0,.slice none 0 0,.slice none 0 0,.slice none 0 0,.slice none 0 0,.slice none 0 0,.slice none 0 0,.slice none 0 0,.slice none 0 0,.slice none 0 0,.slice none 0 0,.int .i64 0,.int .i64 0,.int .i64 0,.slice none 0 0]
theorem dL (w:World)(A:Option Addr)(n c:Nat)(a fk fa k1 k2 k3 k4 k5:Int)(rs:Array Value):∃w0,w0=(((((w.alloc (.cells #[.slice A n c,a] 32)).alloc (.cells rs 38)).alloc (.cells #[fk,fa] 36)).alloc (.cells #[k1,k2,k3,k4,k5] 62)).alloc (.cells Gq 77))∧An w w0∧
 Aq w0 w.heap.size 32 #[.slice A n c,.int .i64 a]∧Aq w0 (w.heap.size+1) 38 rs∧Aq w0 (w.heap.size+1+1) 36 #[.int .i64 fk,.int .i64 fa]∧Aq w0 (w.heap.size+1+1+1) 62 #[.int .i64 k1,.int .i64 k2,.int .i64 k3,.int .i64 k4,.int .i64 k5]∧Aq w0 (w.heap.size+1+1+1+1) 77 Gq:=by
 have h1:=Aq.new w 32 #[.slice A n c,.int .i64 a];have x1:=An.alloc w (.cells #[.slice A n c,a] 32);have z1:(w.alloc (.cells #[.slice A n c,a] 32)).heap.size=w.heap.size+1:=by simp
 generalize w.alloc (.cells #[.slice A n c,a] 32)=W1 at*;have h2:=Aq.new W1 38 rs;have x2:=An.alloc W1 (.cells rs 38);have z2:(W1.alloc (.cells rs 38)).heap.size=w.heap.size+1+1:=by simp[z1]
 rw[z1]at h2;generalize W1.alloc (.cells rs 38)=W2 at*;have h3:=Aq.new W2 36 #[.int .i64 fk,.int .i64 fa];have x3:=An.alloc W2 (.cells #[fk,fa] 36);have z3:(W2.alloc (.cells #[fk,fa] 36)).heap.size=w.heap.size+1+1+1:=by simp[z2]
 rw[z2]at h3;generalize W2.alloc (.cells #[fk,fa] 36)=W3 at*;have h4:=Aq.new W3 62 #[.int .i64 k1,.int .i64 k2,.int .i64 k3,.int .i64 k4,.int .i64 k5];have x4:=An.alloc W3 (.cells #[k1,k2,k3,k4,k5] 62);have z4:(W3.alloc (.cells #[k1,k2,k3,k4,k5] 62)).heap.size=w.heap.size+1+1+1+1:=by simp[z3]
 rw[z3]at h4;generalize W3.alloc (.cells #[k1,k2,k3,k4,k5] 62)=W4 at*;have h5:=Aq.new W4 77 Gq;have x5:=An.alloc W4 (.cells Gq 77);exact I49
def Ht (A:Option Addr)(n c:Nat)(a:Int)(rs:Array Value)(k1 k2 k3 k4 k5:Int):Array Value:=#[.slice A n c,.int .i64 a]++rs++#[.int .i64 k1,.int .i64 k2,.int .i64 k3,.int .i64 k4,.int .i64 k5]++Gq
theorem Xw (h:rs.size=27):(Ht A n c a rs k1 k2 k3 k4 k5).size=67:=by
 simp[Ht,Gq,h]
theorem jL (A:Option Addr)(n c:Nat)(a k1 k2 k3 k4 k5:Int)(r0 r1 r2 r3 r4 r5 r6 r7 r8 r9 r10 r11 r12 r13 r14 r15 r16 r17 r18 r19 r20 r21 r22 r23 r24 r25 r26:Value):
 prog.built 118 [(0,.agg #[.slice A n c,a]),(1,.agg #[r0,r1,r2,r3,r4,r5,r6,r7,r8,r9,r10,r11,r12,r13,r14,r15,r16,r17,r18,r19,r20,r21,r22,r23,r24,r25,r26]),(2,.agg #[k1,k2,k3,k4,k5])]=some (Ht A n c a #[r0,r1,r2,r3,r4,r5,r6,r7,r8,r9,r10,r11,r12,r13,r14,r15,r16,r17,r18,r19,r20,r21,r22,r23,r24,r25,r26] k1 k2 k3 k4 k5):=by kernel_rfl
theorem wG (h:rs.size=27):
 prog.built 118 [(0,.agg #[.slice A n c,a]),(1,.agg rs),(2,.agg #[k1,k2,k3,k4,k5])]=some (Ht A n c a rs k1 k2 k3 k4 k5):=by
 obtain⟨l⟩:=rs
 match l,h with
 |[r0,r1,r2,r3,r4,r5,r6,r7,r8,r9,r10,r11,r12,r13,r14,r15,r16,r17,r18,r19,r20,r21,r22,r23,r24,r25,r26],_=>exact jL A n c a k1 k2 k3 k4 k5 r0 r1 r2 r3 r4 r5 r6 r7 r8 r9 r10 r11 r12 r13 r14 r15 r16 r17 r18 r19 r20 r21 r22 r23 r24 r25 r26
def Vj (T:Value)(a fk fa:Int):Array Value:=((#[T,.int .i64 a,.slice none 0 0,.slice none 0 0,.slice none 0 0,.slice none 0 0,.slice none 0 0,.slice none 0 0,.slice none 0 0,.slice none 0 0,.slice none 0 0,.slice none 0 0,.slice none 0 0,.slice none 0 0,.slice none 0 0,.slice none 0 0,.slice none 0 0,.slice none 0 0,.slice none 0 0,.slice none 0 0,.slice none 0 0,.slice none 0 0,.slice none 0 0,.slice none 0 0,.slice none 0 0,.slice none 0 0,.slice none 0 0,.slice none 0 0,.slice none 0 0,.int .i64 fk,.int .i64 fa,.int .i64 0,.slice none 0 0]:Array Value))
theorem Kj (T:Value)(a fk fa:Int):(Vj T a fk fa).size=33:=rfl
theorem tQ (B:Option Addr)(n d:Nat)(a fk fa:Int):(Vj (.slice B n d) a fk fa).all (·.oneCell')=true:=by simp[Vj,Bw]
theorem Ss:Gq.all (·.oneCell')=true:=by simp[Gq,Bw]
theorem tP:(prog.info? 77).map (·.size)=some 33:=by kernel_rfl
theorem Hv {cs:Array Value}(h:cs.size=33):(prog.info? 77).map (·.size)=some cs.size:=by rw[h];exact tP
theorem Fh {g t:Nat}{a b:Value}(h:Aq w g t #[a,b]):w.cell? ⟨g,0,none⟩=some a∧w.cell? ⟨g,1,none⟩=some b:=⟨h.cell 0,h.cell 1⟩
theorem Vs {g t:Nat}{a b c d e:Value}(h:Aq w g t #[a,b,c,d,e]):w.cell? ⟨g,0,none⟩=some a∧w.cell? ⟨g,1,none⟩=some b∧w.cell? ⟨g,2,none⟩=some c∧w.cell? ⟨g,3,none⟩=some d∧w.cell? ⟨g,4,none⟩=some e:=⟨h.cell 0,h.cell 1,h.cell 2,h.cell 3,h.cell 4⟩
theorem Fq (w:World)(g:Nat)(us:Array Value):w.grownBy (w.setRow g us) (some g):=
 ⟨rfl,rfl,rfl,by simp[World.setRow],fun k hk ai=>Go.setRow_other w g k us (fun e=>ai (by rw[e]))⟩
structure Pw (w:World)(g:Nat)(cs:Array Value)(A:Option Addr)(n c:Nat)(a:Int)(rs:Array Value)(rl:Nat→List Int)(k1 k2 k3 k4 k5 fk fa:Int)(B:Option Addr)(d:Nat):Prop where
 size:cs.size=67
 text:cs[0]? = some (.slice A n c)
 at_:cs[1]? = some (.int .i64 a)
 regs:∀j,j<27→cs[2+j]? = rs[j]?
 c29:cs[29]? = some (.int .i64 k1)
 c30:cs[30]? = some (.int .i64 k2)
 c31:cs[31]? = some (.int .i64 k3)
 c32:cs[32]? = some (.int .i64 k4)
 c33:cs[33]? = some (.int .i64 k5)
 out:cs[34]? = some (.slice B n d)
 oat:cs[35]? = some (.int .i64 a)
 oregs:∀j,j<27→∃v,cs[36+j]? = some v∧Bl w (g+1) v (rl j)
 far:∀j,j<27→∀v,cs[36+j]? = some v→∀g',(Ak B n d).ownBlock=some g'→v.ownBlock≠some g'
 c63:cs[63]? = some (.int .i64 fk)
 c64:cs[64]? = some (.int .i64 fa)
 c65:cs[65]? = some (.int .i64 0)
 c66:cs[66]? = some (.slice none 0 0)
def Cv (g:Nat)(w:World)(Ok:Prop)(Post:World→Array Value→Prop)(e:Ending)(w':World):Prop:=
 ∃er cs',e=.returned (.int .i64 er)∧w.grownBy w' (some g)∧(Ok→er=0)∧(er=0→Aq w' g 118 cs'∧cs'.size=67∧(∀k v,34≤k→cs'[k]? = some v→v.oneCell'=true)∧Post w' cs')
def rP (w:World)(Ok:Prop)(Post:World→Array Value→Prop)(e:Ending)(w':World):Prop:=
 An w w'∧((¬Ok∧∃er,er≠0∧e=.returned (.tuple #[.agg Gq,.int .i64 er]))∨∃cs',cs'.size=67∧(cs'.extract 34 67).all (·.oneCell')=true∧e=.returned (.tuple #[.agg (cs'.extract 34 67),(0:Int)])∧Post w' cs')
def rO (fk k3:Int):Prop:=(fk=0∨fk=102∨fk=70∨fk=116∨fk=84)∧(k3=0∨k3=100∨k3=99∨k3=121)
theorem wF {a fk fa k1 k2 k3 k4 k5:Int}{l:List Int}{rl:Nat→List Int}{Ok:Prop}{Post:World→Array Value→Prop}(hl:Bj w A n c l)(hA:A=none→c=0)(hr:Lp w rs rl)(hn:n≤200)(ha:0≤a)(wv:a≤max 0 ((n:Int)-1))(hk:0≤k1)(fx:k1≤999)
 (hP:∀w1 w2 cs,Post w1 cs→w1.grownBy w2 (some (w.heap.size+1+1+1+1))→Post w2 cs)
 (H1:rO fk k3→∀(wz:World) (g:Nat) (cs:Array Value) (B:Option Addr) (d:Nat),An w wz→w.heap.size+5≤g→Aq wz g 118 cs→Pw wz g cs A n c a rs rl k1 k2 k3 k4 k5 fk fa B d→Ba wz (g+1) B n d l→(B=none→d=0)→
  Calls prog 49 #[.pointer (some ⟨g,0,none⟩)] wz (Cv g wz Ok Post)):
 Calls prog 28 #[.agg #[.slice A n c,a],.agg rs,.agg #[fk,fa],.agg #[k1,k2,k3,k4,k5]] w (rP w (rO fk k3∧Ok) Post):=by
 have HC:Hid (∀w,Calls prog 48 #[.agg #[.slice A n c,a]] w fun e w'=>e=.returned (.int .i64 0)∧An w w'):=A6 fun w=>Xz w hn ha wv
 obtain⟨w0,me,am,a9,al,ak,ap,bn⟩:=dL w A n c a fk fa k1 k2 k3 k4 k5 rs;have HL:=A6 hl;have HA:=A6 hA;have HR:=A6 hr;have fc:=A6 hr.1;have HX:=A6 am;have B0:=A6 a9;have B1:=A6 al;have B2:=A6 ak;have B3:=A6 ap;have B4:=A6 bn;have HW:=A6 me;have HN:=A6 hn;have HPP:=A6 hP;have wE:=A6 H1;clear hl hr am a9 al ak ap bn me hA hn ha wv hP H1;go_enter func28,ntmps28
 go_upto_region 1 with fail
 have hw:=HW.out;unfold Gq at hw;change Code.wp _ _ _ _ (((((w.alloc (.cells #[.slice A n c,a] 32)).alloc (.cells rs 38)).alloc (.cells #[fk,fa] 36)).alloc (.cells #[k1,k2,k3,k4,k5] 62)).alloc (.cells Gq 77));unfold Gq;rw[←hw];clear hw HW;obtain⟨x0,x1⟩:=Fh B0.out;go_wp2_with fail
 refine(HC.out _).mono ?_
 rintro e w1 ⟨rfl,aj⟩;have C0:=A6 (B0.out.ext aj);have C1:=A6 (B1.out.ext aj);have C2:=A6 (B2.out.ext aj);have C3:=A6 (B3.out.ext aj);have C4:=A6 (B4.out.ext aj);have CX:=A6 (HX.out.trans aj);clear x0 x1 B0 B1 B2 B3 B4 HX aj HC;obtain⟨x0,x1⟩:=Fh C0.out;obtain⟨y0,y1,y2,y3,y4⟩:=Vs C3.out;have my:w.heap.size+1+1+1+1<w1.heap.size:=C4.out.lt;go_upto_region 6 with fail
 apply wp_region_lit
 refine wpList_load_row rfl 32 (.tmp 4) rfl w.heap.size rfl 32 #[.slice A n c,.int .i64 a] (0,0) _ C0.out underlying32 rfl (by kernel_rfl) ?_
 refine wpList_load_row rfl 38 (.tmp 5) rfl (w.heap.size+1) rfl 38 rs (0,0) _ C1.out underlying38 rfl (De fc.out) ?_
 refine wpList_load_row rfl 62 (.tmp 7) rfl (w.heap.size+1+1+1) rfl 62 #[.int .i64 k1,.int .i64 k2,.int .i64 k3,.int .i64 k4,.int .i64 k5] (0,0) _ C3.out underlying62 rfl (by kernel_rfl) ?_
 refine Yf rfl 118 0 1 2 (.tmp 29) (.tmp 30) (.tmp 31) rfl (.agg #[.slice A n c,a]) (.agg rs) (.agg #[k1,k2,k3,k4,k5]) rfl rfl rfl (Ht A n c a rs k1 k2 k3 k4 k5) (wG fc.out) ?_
 refine eA rfl 118 (.tmp 32) rfl (Ht A n c a rs k1 k2 k3 k4 k5) rfl ?_
 go_upto_region 7 with fail
 change Code.wp _ _ _ _ (w1.alloc (.cells (Ht A n c a rs k1 k2 k3 k4 k5) 118));have bt:=A6 (An.alloc w1 (.cells (Ht A n c a rs k1 k2 k3 k4 k5) 118));have D9:=A6 (Aq.new w1 118 (Ht A n c a rs k1 k2 k3 k4 k5));clear x0 x1 y0 y1 y2 y3 y4;generalize w1.alloc (.cells (Ht A n c a rs k1 k2 k3 k4 k5) 118)=w2 at*;obtain⟨x0,x1⟩:=Fh (C0.out.ext bt.out);obtain⟨z0,z1⟩:=Fh (C2.out.ext bt.out);have CR:w1.heap.size+1≤w2.heap.size:=D9.out.lt;have ww:=A6 (Dj (HL.out.ext ((CX.out.trans bt.out).trans (An.drew w2))) HA.out (by have:=HN.out;omega))
 have CS:=A6 (Xw (A:=A) (n:=n) (c:=c) (a:=a) (k1:=k1) (k2:=k2) (k3:=k3) (k4:=k4) (k5:=k5) fc.out);go_cut [] (fun wx=>∃(B:Option Addr) (d:Nat),Hid (Aq wx w1.heap.size 118 (L0 (Ht A n c a rs k1 k2 k3 k4 k5) 34 (Vj (.slice B n d) a fk fa)))∧Hid (Ba wx (w1.heap.size+1) B n d l∧(B=none→d=0))∧Hid (An w1 wx))
 case first=>
  refine wp_region_held_drew (S:=fun w'=>w'.cell? ⟨w,0,none⟩=some (.slice A n c)∧w'.cell? ⟨w,1,none⟩=some (.int .i64 a)∧w'.cell? ⟨w.heap.size+1+1,0,none⟩=some (.int .i64 fk)∧w'.cell? ⟨w.heap.size+1+1,1,none⟩=some (.int .i64 fa)) (by kernel_rfl) ⟨x0,x1,z0,z1⟩ (fun aa=>?_)
  refine Bv (i:=0) (v:=some w1.heap.size) rfl aa ?_
  refine Bv (i:=1) (v:=some w.heap.size) rfl aa ?_
  refine Bv (i:=2) (v:=(.slice A n c)) rfl aa ?_
  refine Bv (i:=4) (v:=(.pointer (some ⟨w,1,none⟩))) rfl aa ?_
  refine Bv (i:=5) (v:=a) rfl aa ?_
  refine Bv (i:=7) (v:=(.agg #[fk,fa])) rfl aa ?_
  refine wpAnyH_ready (rs:=[3]) (by kernel_rfl) (by simp) ?_
  refine Ai rfl (fun K hK=>?_) Am
  refine C8 rfl 35 #[.slice A n c] rfl (by kernel_rfl) (fun v w'=>∃B d,v=.slice B n d∧Ba w' w2.drew.heap.size B n d l∧(B=none→d=0)∧An w2.drew w') (ww.out.mono fun e w' ⟨B,d,h1,h2,h3,h4⟩=>⟨_,h1,B,d,rfl,h2,h3,h4⟩) ?_
  rintro v w3 ⟨B,d,rfl,cv,ir,bg⟩;have ap:=(D9.out.ext (An.drew w2)).ext bg;refine hK.out _ _ ⟨bg.cell x0,bg.cell x1,bg.cell z0,bg.cell z1⟩ (fun aa=>?_)
  clear hK K
  try simp only[Ac,Aa,Ab,Ao,A7,Ad,Ae]
  refine Bv (i:=6) (v:=(.agg #[.slice B n d,a])) rfl aa ?_
  refine Bv (i:=8) (v:=(.agg #[.slice B n d,.int .i64 a,.slice none 0 0,.slice none 0 0,.slice none 0 0,.slice none 0 0,.slice none 0 0,.slice none 0 0,.slice none 0 0,.slice none 0 0,.slice none 0 0,.slice none 0 0,.slice none 0 0,.slice none 0 0,.slice none 0 0,.slice none 0 0,.slice none 0 0,.slice none 0 0,.slice none 0 0,.slice none 0 0,.slice none 0 0,.slice none 0 0,.slice none 0 0,.slice none 0 0,.slice none 0 0,.slice none 0 0,.slice none 0 0,.slice none 0 0,.slice none 0 0,.int .i64 fk,.int .i64 fa,.int .i64 0,.slice none 0 0])) rfl aa ?_
  refine Bv (i:=9) (v:=some w1.heap.size) rfl aa ?_
  refine Bv (i:=10) (v:=(.pointer (some ⟨w1,34,none⟩))) rfl aa ?_
  refine wpAnyH_ready (rs:=[11]) (by kernel_rfl) (by simp) ?_
  refine Ai rfl (fun K hK=>?_) Am
  refine Ca rfl 77 (.tmp 44) (.tmp 42) rfl w1.heap.size 34 (Vj (.slice B n d) a fk fa) rfl rfl 118 _ ap (Hv (Kj _ _ _ _)) (by rw[CS.out,Kj];exact Aj 67) (tQ _ _ _ _ _ _) ?_
  have mz:An w1 (w3.setRow w1.heap.size (L0 (Ht A n c a rs k1 k2 k3 k4 k5) 34 (Vj (.slice B n d) a fk fa))):=((bt.out.trans (An.drew w2)).trans bg).setRow (Aj _) _;have fy:=ap.setRow (L0 (Ht A n c a rs k1 k2 k3 k4 k5) 34 (Vj (.slice B n d) a fk fa));have wS:=Bd.setRow (Bd.lower cv (show w1.heap.size+1≤w2.drew.heap.size from CR)) (Bt _) (L0 (Ht A n c a rs k1 k2 k3 k4 k5) 34 (Vj (.slice B n d) a fk fa))
  have gu:=A6 mz;have pp:=A6 fy;have FA:=A6 (Au wS ir);refine hK.out _ _ ?_ (fun aa=>?_)
  ·exact⟨mz.cell (C0.out.cell 0),mz.cell (C0.out.cell 1),mz.cell (C2.out.cell 0),mz.cell (C2.out.cell 1)⟩
  clear hK K mz fy wS
  try simp only[Ac,Aa,Ab,Ao,A7,Ad,Ae]
  refine wpAnyH_done (by kernel_rfl) ?_ _
  try go_wp2_with fail
  go_meet
  exact⟨B,d,pp,FA,gu⟩
 case rest=>
  obtain⟨B,d,HB,HO,HE⟩:=hcut;clear x0 x1 z0 z1 ww D9 bt;obtain⟨S0,tu⟩:∃S,L0 (Ht A n c a rs k1 k2 k3 k4 k5) 34 (Vj (.slice B n d) a fk fa)=S:=⟨_,rfl⟩;have bm:S0.size=67:=by rw[←tu,Q0 (by rw[CS.out,Kj];exact Aj 67)];exact CS.out
  have jx:∀j,j<27→S0[36+j]? = some (.slice none 0 0):=fun j hj=>by
   rw[←tu,D6 (by rw[CS.out,Kj];exact Aj 67),if_neg (by omega),Kj,if_pos (by omega),show 36+j-34=2+j by omega]
   match j,hj with
   |0,_=>rfl|1,_=>rfl|2,_=>rfl|3,_=>rfl|4,_=>rfl|5,_=>rfl|6,_=>rfl|7,_=>rfl|8,_=>rfl|9,_=>rfl|10,_=>rfl|11,_=>rfl|12,_=>rfl|13,_=>rfl|14,_=>rfl|15,_=>rfl|16,_=>rfl|17,_=>rfl|18,_=>rfl|19,_=>rfl|20,_=>rfl|21,_=>rfl|22,_=>rfl|23,_=>rfl|24,_=>rfl|25,_=>rfl|26,_=>rfl
   |j+27,h=>exact absurd h (by omega)
  have zd:=A6 tu;rw[tu]at HB;have HZ:=A6 (Au bm jx);clear tu bm jx CS;go_wp2_with fail
  go_loopw [45] (fun s45 wx=>∃(i:Nat) (cs:Array Value),i≤27∧s45=.int .i64 i∧Hid (Aq wx w1.heap.size 118 cs)∧Hid (cs.size=67∧(∀k,k<36∨63≤k→cs[k]? = S0[k]?)∧(∀j,j<i→∃v,cs[36+j]? = some v∧Bl wx (w1.heap.size+1) v (rl j))∧(∀j,i≤j→j<27→cs[36+j]? = some (.slice none 0 0)))∧Hid (Ba wx (w1.heap.size+1) B n d l)∧Hid (An w1 wx)∧Hid (∀j,j<i→∀v,cs[36+j]? = some v→∀g',(Ak B n d).ownBlock=some g'→v.ownBlock≠some g')) (fun s45 _=>27-(intOf s45).toNat)
  case atStart=>exact⟨0,S0,by omega,rfl,HB,A6 ⟨HZ.out.1,fun _ _=>rfl,fun j hj=>by omega,fun j _ hj=>HZ.out.2 j hj⟩,A6 HO.out.1,HE,A6 (fun j hj=>absurd hj (Nat.not_lt_zero j))⟩
  case round=>
   have x8:=A6 HO.out.2;clear HB HO HE;obtain⟨i,cs,hi,rfl,HB,HI,HO,HE,KP⟩:=hrel;by_cases ae:i<27
   ·obtain⟨v,hv,A2,n2,c2,rfl,xa,pq,kw⟩:=HR.out.2 i ae
    have hc:wr.cell? ⟨w.heap.size+1,i,none⟩=some (.slice A2 n2 c2):=by rw[(C1.out.ext HE.out).cell i];exact hv
    have HC:=A6 (Dj (xa.ext ((CX.out.trans HE.out).trans (An.drew wr))) pq kw);have vd:=A6 kw;clear hv xa pq kw;go_upto_region 11 with fail
    go_region_law (first
     |(
      refine C8 rfl 35 #[.slice A2 n2 c2] rfl (by kernel_rfl) (fun v w'=>∃B d,v=.slice B n2 d∧Ba w' wr.drew.heap.size B n2 d (rl i)∧(B=none→d=0)∧An wr.drew w') (HC.out.mono fun e w' ⟨B,d,h1,h2,h3,h4⟩=>⟨_,h1,B,d,rfl,h2,h3,h4⟩) ?_
      rintro v w3 ⟨B2,d2,rfl,cv,ir,bg⟩;have ap:=(HB.out.ext (An.drew wr)).ext bg;have c36:w3.cell? ⟨w1,36+i,none⟩=some (.slice none 0 0):=by rw[ap.cell];exact HI.out.2.2.2 i (Aj _) ae
      have f36:=ap.frozen (36+i)))
    all_goals
     have m8:=(An.drew wr).trans bg;have eh:=A6 (ap.set_ (36+i) (.slice B2 n2 d2));have pu:=A6 ((HE.out.trans m8).setCell (p:=⟨w1,36+i,none⟩) (Aj _) (.slice B2 n2 d2));have np:=A6 (Bd.setCell (Bd.ext HO.out m8) (p:=⟨w1,36+i,none⟩) (Bt _) (.slice B2 n2 d2));have QR:w1.heap.size+1≤wr.heap.size:=HB.out.lt;have x9:Hid (Bl (w3.setCell ⟨w1,36+i,none⟩ (.slice B2 n2 d2)) (w1.heap.size+1) (.slice B2 n2 d2) (rl i)):=A6 (Bl.setCell ⟨B2,n2,d2,rfl,Bd.lower cv (show w1.heap.size+1≤wr.drew.heap.size from QR),ir,vd.out⟩ (Bt _) _)
     have nr:Hid ((cs.setIfInBounds (36+i) (.slice B2 n2 d2)).size=67∧(∀k,k<36∨63≤k→(cs.setIfInBounds (36+i) (.slice B2 n2 d2))[k]? = S0[k]?)∧(∀j,j<i+1→∃v,(cs.setIfInBounds (36+i) (.slice B2 n2 d2))[36+j]? = some v∧Bl (w3.setCell ⟨w1,36+i,none⟩ (.slice B2 n2 d2)) (w1.heap.size+1) v (rl j))∧(∀j,i+1≤j→j<27→(cs.setIfInBounds (36+i) (.slice B2 n2 d2))[36+j]? = some (.slice none 0 0))):=A6 (by
      refine⟨by simpa using HI.out.1,fun k hk=>?_,fun j hj=>?_,fun j h1 h2=>?_⟩
      ·rw[Dl (by omega)];exact HI.out.2.1 k hk
      ·by_cases ig:j=i
       ·subst ig
        exact⟨_,by rw[J7m,if_pos (by have:=HI.out.1;omega)],x9.out⟩
       ·obtain⟨v,h1,h2⟩:=HI.out.2.2.1 j (by omega)
        exact⟨v,by rw[Dl (by omega)];exact h1,(h2.ext m8).setCell (p:=⟨w1,36+i,none⟩) (Bt _) _⟩
      ·rw[Dl (by omega)];exact HI.out.2.2.2 j (by omega) h2)
     have TV:Hid (∀j,j<i+1→∀v,(cs.setIfInBounds (36+i) (.slice B2 n2 d2))[36+j]? = some v→∀g',(Ak B n d).ownBlock=some g'→v.ownBlock≠some g'):=A6 (fun j hj v hv g' cr=>by
      by_cases ig:j=i
      ·subst ig
       rw[J7m,if_pos (by have:=HI.out.1;omega)]at hv
       injection hv with hv;subst hv;intro h;have h1:=(Bd.blk cv g' h).1;have h2:=(Bd.blk HO.out g' cr).2;have h3:wr.heap.size≤g':=h1;omega
      ·rw[Dl (by omega)]at hv
       exact KP.out j (by omega) v hv g' cr)
     clear ap c36 f36 bg m8 cv ir hc HC HB HI HO HE vd x9 QR KP;go_wp2_with fail
     go_roundw
     case rel=>exact⟨i+1,_,by omega,by go_num,eh,nr,np,pu,TV⟩
     case measure=>simp[intOf];omega
   ·obtain rfl:i=27:=by omega
    obtain⟨z0,z1⟩:=Fh (C2.out.ext HE.out);go_upto_block 2 with fail
    go_cut [] (fun wx=>wx=wr∧Hid (fk=0∨fk=102∨fk=70∨fk=116∨fk=84))
    case first=>
     by_cases QS:fk=0∨fk=102∨fk=70∨fk=116∨fk=84
     ·have TW:=A6 QS
      rcases QS with rfl|rfl|rfl|rfl|rfl<;>(go_wp2_with fail;go_meet;exact⟨rfl,TW⟩)
     ·have N0:=trivial;exact K39
    case rest=>
     obtain⟨hcut,TW⟩:=hcut;generalize wc=wd at*;subst hcut;clear z0 z1;obtain⟨y0,y1,y2,y3,y4⟩:=Vs (C3.out.ext HE.out);go_upto_block 3 with fail
     go_cut [] (fun wx=>wx=wd∧Hid (k3=0∨k3=100∨k3=99∨k3=121))
     case first=>
      by_cases ve:k3=0∨k3=100∨k3=99∨k3=121
      ·have KQ:=A6 ve
       rcases ve with rfl|rfl|rfl|rfl<;>(go_wp2_with fail;go_meet;exact⟨rfl,KQ⟩)
      ·have N1:=trivial;exact K39
     case rest=>
      obtain⟨hcut,KQ⟩:=hcut;generalize wc=wd2 at*;subst hcut;clear y0 y1 y2 y3 y4;have CS:=Xw (A:=A) (n:=n) (c:=c) (a:=a) (k1:=k1) (k2:=k2) (k3:=k3) (k4:=k4) (k5:=k5) fc.out;have TX:34+(Vj (.slice B n d) a fk fa).size≤(Ht A n c a rs k1 k2 k3 k4 k5).size:=by rw[CS,Kj];exact Aj 67
      have tv:∀k,k<34→cs[k]? = (Ht A n c a rs k1 k2 k3 k4 k5)[k]? := fun k hk=>by rw[HI.out.2.1 k (.inl (by omega)),←zd.out,D6 TX,if_pos hk]
      have FB:∀k,34≤k→k<67→(k<36∨63≤k)→cs[k]? = (Vj (.slice B n d) a fk fa)[k-34]? := fun k h1 h2 h3=>by rw[HI.out.2.1 k h3,←zd.out,D6 TX,if_neg (by omega),if_pos (by rw[Kj];omega)]
      have ei:∀k,29≤k→k<34→(Ht A n c a rs k1 k2 k3 k4 k5)[k]? = (#[.int .i64 k1,.int .i64 k2,.int .i64 k3,.int .i64 k4,.int .i64 k5]:Array Value)[k-29]? := fun k h1 h2=>by
       have hr:=fc.out;simp only[Ht,Array.getElem?_append,Array.size_append,hr,List.size_toArray,E3,List.length_nil];rw[if_pos (by omega),if_neg (by omega)]
      have HD:Hid (Pw wd2 w1.heap.size cs A n c a rs rl k1 k2 k3 k4 k5 fk fa B d):=A6
       {
        size:=HI.out.1
        text:=by
         have hr:=fc.out;rw[tv 0 (by omega)]
         exact I54
        at_:=by
         have hr:=fc.out;rw[tv 1 (by omega)]
         exact I54
        regs:=fun j hj=>by
         have hr:=fc.out;rw[tv (2+j) (by omega)]
         simp only[Ht,Array.getElem?_append,Array.size_append,hr,List.size_toArray,E3,List.length_nil];rw[if_pos (by omega),if_pos (by omega),if_neg (by omega),show 2+j-2=j by omega]
        c29:=by rw[tv 29 (by omega),ei 29 (by omega) (by omega)];rfl
        c30:=by rw[tv 30 (by omega),ei 30 (by omega) (by omega)];rfl
        c31:=by rw[tv 31 (by omega),ei 31 (by omega) (by omega)];rfl
        c32:=by rw[tv 32 (by omega),ei 32 (by omega) (by omega)];rfl
        c33:=by rw[tv 33 (by omega),ei 33 (by omega) (by omega)];rfl
        out:=by rw[FB 34 (by omega) (by omega) (by omega)];rfl
        oat:=by rw[FB 35 (by omega) (by omega) (by omega)];rfl
        oregs:=HI.out.2.2.1
        far:=KP.out
        c63:=by rw[FB 63 (by omega) (by omega) (by omega)];rfl
        c64:=by rw[FB 64 (by omega) (by omega) (by omega)];rfl
        c65:=by rw[FB 65 (by omega) (by omega) (by omega)];rfl
        c66:=by rw[FB 66 (by omega) (by omega) (by omega)];rfl }
      have HC:=A6 (wE.out ⟨TW.out,KQ.out⟩ wd2 w1.heap.size cs B d (CX.out.trans HE.out) (by omega) HB.out HD.out HO.out x8.out)
      have C4d:=A6 (C4.out.ext HE.out);have TY:=A6 (CX.out.trans HE.out);clear CS TX tv FB ei wE HD HB HI HO HE C0 C1 C2 C3 C4 CX HZ zd x8 HL HA HR fc;go_wp2_with fail
      refine HC.out.mono ?_
      rintro e w4 ⟨er,cs',rfl,av,IU,cw⟩;have ns:=A6 IU;have B4:=A6 (Aq.grown C4d.out av (fun e=>by injection e with e;omega))
      have jy:=A6 (Below.grown TY.out av TY.out.hsize (fun k e=>by injection e with e;omega))
      have AA:=A6 cw;clear HC C4d TY av cw IU;by_cases ey:er=0
      ·subst ey
       obtain⟨hb,hz,ho,hp⟩:=AA.out rfl;have yL:(cs'.extract 34 67).size=33:=by simp[hz]
       have HV:Hid (∀j v,(cs'.extract 34 67)[j]? = some v→cs'[34+j]? = some v):=A6 (fun j v hj=>by
        rw[Array.getElem?_extract]at hj;split at hj
        ·exact hj
        ·cases hj)
       have y6:Hid ((cs'.extract 34 67).all (·.oneCell')=true):=A6 (by
        rw[Array.all_eq_true_iff_forall_mem];intro v hv;obtain⟨j,hj⟩:=Array.mem_iff_getElem?.1 hv;exact ho (34+j) v (by omega) (HV.out j v hj))
       have FC:=A6 yL;have HBd:=A6 hb;have HPo:=A6 hp;have HZ':=A6 hz;clear hb hz ho hp yL AA;go_wp2_with ((refine Qb rfl 77 (.tmp 84) rfl w1.heap.size 34 rfl 118 cs' (cs'.extract 34 67) (0,0) _ HBd.out HV.out underlying77 rfl (Hv FC.out) ?_)
        <;> (refine wpList_store_row rfl 77 (.tmp 8) (.tmp 85) rfl (w.heap.size+1+1+1+1) (cs'.extract 34 67) rfl rfl 77 Gq B4.out (Hv FC.out) (by rw[FC.out];rfl) y6.out ?_))
       have dp:=B4.out.setRow (cs'.extract 34 67);refine bodyPost_ret (v:=.tuple #[.agg (cs'.extract 34 67),(0:Int)]) ?_ rfl ⟨An.setRow jy.out (by omega) _,.inr ⟨cs',HZ'.out,y6.out,rfl,HPP.out _ _ _ HPo.out (Fq _ _ _)⟩⟩
       exact Eu rfl _ _ (w.heap.size+1+1+1+1) 77 _ _ _ _ rfl rfl dp underlying77 rfl (Hv FC.out)
      ·have N2:=trivial;exact K39
end
