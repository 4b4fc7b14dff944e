/-
  Part ZDoA.
-/
import Derived.Test.YtiahhfglhlgfiaaGreatZTk
import Derived.Test.YtiahhfglhlgfiaaGreatZRegQ
import Derived.Test.YtiahhfglhlgfiaaGreatZSeg
import Derived.Deep.RegionLaw
import Derived.Deep.DeepCutAuto
import Derived.Deep.CutRange
import Derived.Deep.CutBlock
import Derived.Deep.RegionHeld3
set_option maxRecDepth 100000
set_option maxHeartbeats 16000000
set_option linter.unusedVariables false
set_option linter.unusedSimpArgs false
namespace Go.Proofs.YtiahhfglhlgfiaaGreat
open Go.RowKit
open Value renaming oneCell'→Bt,slice→Aj
open Act renaming put→Am
open AllReadyH renaming cons→Ah,nil→Ak
open _root_.And renaming intro→Be
open _root_.Array renaming getElem?_setIfInBounds_ne→D1,getElem?_setIfInBounds_self→J0d
open _root_.List renaming getElem_cons_succ→Aa,getElem_cons_zero→A7,getElem_toArray→Ab,setIfInBounds_toArray→A6,set_cons_succ→Ad,set_cons_zero→Ac
open _root_.Nat renaming le_refl→Ai,lt_succ_self→Bx
section
variable {A:Option Addr}{rs:Array Value}{k1 k2 k3 k4 k5 a:Int}{n c:Nat}{w:World}
theorem Un (w:World)(hn:n≤200)(ha:0≤a)(ha2:a≤max 0 ((n:Int)-1)):
 Calls Tryz.prog 110 #[.agg #[.slice A n c,.int .i64 a]] w fun e w'=>e=.returned (.int .i64 0)∧Al w w':=by
 have hx:=A4 (Al.alloc w (.cells #[.slice A n c,.int .i64 a] 34));go_enter Tryz.func110,Tryz.ntmps110
 go_wp2_with fail
 all_goals
  go_ret
  exact⟨rfl,hx.out⟩
def Fi:Array Value:=#[.slice none 0 0,.int .i64 0,.slice none 0 0,.slice none 0 0,.slice none 0 0,.slice none 0 0,.slice none 0 0,.slice none 0 0,.slice none 0 0,.slice none 0 0,.slice none 0 0,.slice none 0 0,.slice none 0 0,.slice none 0 0,.slice none 0 0,.slice none 0 0,.slice none 0 0,.slice none 0 0,.slice none 0 0,.slice none 0 0,.slice none 0 0,.slice none 0 0,.slice none 0 0,.slice none 0 0,.slice none 0 0,.slice none 0 0,.slice none 0 0,.slice none 0 0,.slice none 0 0,.int .i64 0,.int .i64 0,.int .i64 0,.slice none 0 0]
theorem Ze (w:World)(A:Option Addr)(n c:Nat)(a fk fa k1 k2 k3 k4 k5:Int)(rs:Array Value):∃w0,w0=(((((w.alloc (.cells #[.slice A n c,.int .i64 a] 34)).alloc (.cells rs 40)).alloc (.cells #[.int .i64 fk,.int .i64 fa] 38)).alloc (.cells #[.int .i64 k1,.int .i64 k2,.int .i64 k3,.int .i64 k4,.int .i64 k5] 87)).alloc (.cells Fi 161))∧Al w w0∧
 An w0 w.heap.size 34 #[.slice A n c,.int .i64 a]∧An w0 (w.heap.size+1) 40 rs∧An w0 (w.heap.size+1+1) 38 #[.int .i64 fk,.int .i64 fa]∧An w0 (w.heap.size+1+1+1) 87 #[.int .i64 k1,.int .i64 k2,.int .i64 k3,.int .i64 k4,.int .i64 k5]∧An w0 (w.heap.size+1+1+1+1) 161 Fi:=by
 have h1:=An.new w 34 #[.slice A n c,.int .i64 a];have x1:=Al.alloc w (.cells #[.slice A n c,.int .i64 a] 34);have z1:(w.alloc (.cells #[.slice A n c,.int .i64 a] 34)).heap.size=w.heap.size+1:=by simp
 generalize w.alloc (.cells #[.slice A n c,.int .i64 a] 34)=W1 at*;have h2:=An.new W1 40 rs;have x2:=Al.alloc W1 (.cells rs 40);have z2:(W1.alloc (.cells rs 40)).heap.size=w.heap.size+1+1:=by simp[z1]
 rw[z1]at h2;generalize W1.alloc (.cells rs 40)=W2 at*;have h3:=An.new W2 38 #[.int .i64 fk,.int .i64 fa];have x3:=Al.alloc W2 (.cells #[.int .i64 fk,.int .i64 fa] 38);have z3:(W2.alloc (.cells #[.int .i64 fk,.int .i64 fa] 38)).heap.size=w.heap.size+1+1+1:=by simp[z2]
 rw[z2]at h3;generalize W2.alloc (.cells #[.int .i64 fk,.int .i64 fa] 38)=W3 at*;have h4:=An.new W3 87 #[.int .i64 k1,.int .i64 k2,.int .i64 k3,.int .i64 k4,.int .i64 k5];have x4:=Al.alloc W3 (.cells #[.int .i64 k1,.int .i64 k2,.int .i64 k3,.int .i64 k4,.int .i64 k5] 87);have z4:(W3.alloc (.cells #[.int .i64 k1,.int .i64 k2,.int .i64 k3,.int .i64 k4,.int .i64 k5] 87)).heap.size=w.heap.size+1+1+1+1:=by simp[z3]
 rw[z3]at h4;generalize W3.alloc (.cells #[.int .i64 k1,.int .i64 k2,.int .i64 k3,.int .i64 k4,.int .i64 k5] 87)=W4 at*;have h5:=An.new W4 161 Fi;have x5:=Al.alloc W4 (.cells Fi 161);exact I46
def Gd (A:Option Addr)(n c:Nat)(a:Int)(rs:Array Value)(k1 k2 k3 k4 k5:Int):Array Value:=#[.slice A n c,.int .i64 a]++rs++#[.int .i64 k1,.int .i64 k2,.int .i64 k3,.int .i64 k4,.int .i64 k5]++Fi
theorem Uk (h:rs.size=27):(Gd A n c a rs k1 k2 k3 k4 k5).size=67:=by
 simp[Gd,Fi,h]
theorem dJ (A:Option Addr)(n c:Nat)(a k1 k2 k3 k4 k5:Int)(r0 r1 r2 r3 r4 r5 r6 r7 r8 r9 r10 r11 r12 r13 r14 r15 r16 r17 r18 r19 r20 r21 r22 r23 r24 r25 r26:Value):
 Tryz.prog.built 185 [(0,.agg #[.slice A n c,.int .i64 a]),(1,.agg #[r0,r1,r2,r3,r4,r5,r6,r7,r8,r9,r10,r11,r12,r13,r14,r15,r16,r17,r18,r19,r20,r21,r22,r23,r24,r25,r26]),(2,.agg #[.int .i64 k1,.int .i64 k2,.int .i64 k3,.int .i64 k4,.int .i64 k5])]=some (Gd A n c a #[r0,r1,r2,r3,r4,r5,r6,r7,r8,r9,r10,r11,r12,r13,r14,r15,r16,r17,r18,r19,r20,r21,r22,r23,r24,r25,r26] k1 k2 k3 k4 k5):=by kernel_rfl
theorem oK (h:rs.size=27):
 Tryz.prog.built 185 [(0,.agg #[.slice A n c,.int .i64 a]),(1,.agg rs),(2,.agg #[.int .i64 k1,.int .i64 k2,.int .i64 k3,.int .i64 k4,.int .i64 k5])]=some (Gd A n c a rs k1 k2 k3 k4 k5):=by
 obtain⟨l⟩:=rs
 match l,h with
 |[r0,r1,r2,r3,r4,r5,r6,r7,r8,r9,r10,r11,r12,r13,r14,r15,r16,r17,r18,r19,r20,r21,r22,r23,r24,r25,r26],_=>exact dJ A n c a k1 k2 k3 k4 k5 r0 r1 r2 r3 r4 r5 r6 r7 r8 r9 r10 r11 r12 r13 r14 r15 r16 r17 r18 r19 r20 r21 r22 r23 r24 r25 r26
def Sy (T:Value)(a fk fa:Int):Array Value:=((#[T,.int .i64 a,.slice none 0 0,.slice none 0 0,.slice none 0 0,.slice none 0 0,.slice none 0 0,.slice none 0 0,.slice none 0 0,.slice none 0 0,.slice none 0 0,.slice none 0 0,.slice none 0 0,.slice none 0 0,.slice none 0 0,.slice none 0 0,.slice none 0 0,.slice none 0 0,.slice none 0 0,.slice none 0 0,.slice none 0 0,.slice none 0 0,.slice none 0 0,.slice none 0 0,.slice none 0 0,.slice none 0 0,.slice none 0 0,.slice none 0 0,.slice none 0 0,.int .i64 fk,.int .i64 fa,.int .i64 0,.slice none 0 0]:Array Value))
theorem J3 (T:Value)(a fk fa:Int):(Sy T a fk fa).size=33:=rfl
theorem mD (B:Option Addr)(n d:Nat)(a fk fa:Int):(Sy (.slice B n d) a fk fa).all (·.oneCell')=true:=by simp[Sy,Bt]
theorem Qa:Fi.all (·.oneCell')=true:=by simp[Fi,Bt]
theorem mC:(Tryz.prog.info? 161).map (·.size)=some 33:=by kernel_rfl
theorem Ge {cs:Array Value}(h:cs.size=33):(Tryz.prog.info? 161).map (·.size)=some cs.size:=by rw[h];exact mC
theorem Ef {g t:Nat}{a b:Value}(h:An w g t #[a,b]):w.cell? ⟨g,0,none⟩=some a∧w.cell? ⟨g,1,none⟩=some b:=⟨h.cell 0,h.cell 1⟩
theorem Ta {g t:Nat}{a b c d e:Value}(h:An w g t #[a,b,c,d,e]):w.cell? ⟨g,0,none⟩=some a∧w.cell? ⟨g,1,none⟩=some b∧w.cell? ⟨g,2,none⟩=some c∧w.cell? ⟨g,3,none⟩=some d∧w.cell? ⟨g,4,none⟩=some e:=⟨h.cell 0,h.cell 1,h.cell 2,h.cell 3,h.cell 4⟩
theorem Eo (w:World)(g:Nat)(us:Array Value):w.grownBy (w.setRow g us) (some g):=
 ⟨rfl,rfl,rfl,by simp[World.setRow],fun k hk hne=>Go.setRow_other w g k us (fun e=>hne (by rw[e]))⟩
structure Mk (w:World)(g:Nat)(cs:Array Value)(A:Option Addr)(n c:Nat)(a:Int)(rs:Array Value)(rl:Nat→List Int)(k1 k2 k3 k4 k5 fk fa:Int)(B:Option Addr)(d:Nat):Prop where
 size:cs.size=67
 text:cs[0]? = some (.slice A n c)
 at_:cs[1]? = some (.int .i64 a)
 regs:∀j,j<27→cs[2+j]? = rs[j]?
 c29:cs[29]? = some (.int .i64 k1)
 c30:cs[30]? = some (.int .i64 k2)
 c31:cs[31]? = some (.int .i64 k3)
 c32:cs[32]? = some (.int .i64 k4)
 c33:cs[33]? = some (.int .i64 k5)
 out:cs[34]? = some (.slice B n d)
 oat:cs[35]? = some (.int .i64 a)
 oregs:∀j,j<27→∃v,cs[36+j]? = some v∧Bg w (g+1) v (rl j)
 far:∀j,j<27→∀v,cs[36+j]? = some v→∀g',(Aj B n d).ownBlock=some g'→v.ownBlock≠some g'
 c63:cs[63]? = some (.int .i64 fk)
 c64:cs[64]? = some (.int .i64 fa)
 c65:cs[65]? = some (.int .i64 0)
 c66:cs[66]? = some (.slice none 0 0)
def Ch (g:Nat)(w:World)(Ok:Prop)(Post:World→Array Value→Prop)(e:Ending)(w':World):Prop:=
 ∃er cs',e=.returned (.int .i64 er)∧w.grownBy w' (some g)∧(Ok→er=0)∧(er=0→An w' g 185 cs'∧cs'.size=67∧(∀k v,34≤k→cs'[k]? = some v→v.oneCell'=true)∧Post w' cs')
def kU (w:World)(Ok:Prop)(Post:World→Array Value→Prop)(e:Ending)(w':World):Prop:=
 Al w w'∧((¬Ok∧∃er,er≠0∧e=.returned (.tuple #[.agg Fi,.int .i64 er]))∨∃cs',cs'.size=67∧(cs'.extract 34 67).all (·.oneCell')=true∧e=.returned (.tuple #[.agg (cs'.extract 34 67),.int .i64 0])∧Post w' cs')
def kT (fk k3:Int):Prop:=(fk=0∨fk=102∨fk=70∨fk=116∨fk=84)∧(k3=0∨k3=100∨k3=99∨k3=121)
theorem oJ {a fk fa k1 k2 k3 k4 k5:Int}{l:List Int}{rl:Nat→List Int}{Ok:Prop}{Post:World→Array Value→Prop}(hl:Bi w A n c l)(hA:A=none→c=0)(hr:Ka w rs rl)(hn:n≤200)(ha:0≤a)(ha2:a≤max 0 ((n:Int)-1))(hk:0≤k1)(hk2:k1≤999)
 (hP:∀w1 w2 cs,Post w1 cs→w1.grownBy w2 (some (w.heap.size+1+1+1+1))→Post w2 cs)
 (H1:kT fk k3→∀(wz:World) (g:Nat) (cs:Array Value) (B:Option Addr) (d:Nat),Al w wz→w.heap.size+5≤g→An wz g 185 cs→Mk wz g cs A n c a rs rl k1 k2 k3 k4 k5 fk fa B d→Av wz (g+1) B n d l→(B=none→d=0)→
  Calls Tryz.prog 111 #[.pointer (some ⟨g,0,none⟩)] wz (Ch g wz Ok Post)):
 Calls Tryz.prog 91 #[.agg #[.slice A n c,.int .i64 a],.agg rs,.agg #[.int .i64 fk,.int .i64 fa],.agg #[.int .i64 k1,.int .i64 k2,.int .i64 k3,.int .i64 k4,.int .i64 k5]] w (kU w (kT fk k3∧Ok) Post):=by
 have HC:Hid (∀w,Calls Tryz.prog 110 #[.agg #[.slice A n c,.int .i64 a]] w fun e w'=>e=.returned (.int .i64 0)∧Al w w'):=A4 fun w=>Un w hn ha ha2
 obtain⟨w0,hw0,hx0,hb0,hb1,hb2,hb3,hb4⟩:=Ze w A n c a fk fa k1 k2 k3 k4 k5 rs;have HL:=A4 hl;have HA:=A4 hA;have HR:=A4 hr;have hrs:=A4 hr.1;have HX:=A4 hx0;have B0:=A4 hb0;have B1:=A4 hb1;have B2:=A4 hb2;have B3:=A4 hb3;have B4:=A4 hb4;have HW:=A4 hw0;have HN:=A4 hn;have HPP:=A4 hP;have HH1:=A4 H1;clear hl hr hx0 hb0 hb1 hb2 hb3 hb4 hw0 hA hn ha ha2 hP H1;go_enter Tryz.func91,Tryz.ntmps91
 go_upto_region 1 with fail
 have hw:=HW.out;unfold Fi at hw;change Code.wp _ _ _ _ (((((w.alloc (.cells #[.slice A n c,.int .i64 a] 34)).alloc (.cells rs 40)).alloc (.cells #[.int .i64 fk,.int .i64 fa] 38)).alloc (.cells #[.int .i64 k1,.int .i64 k2,.int .i64 k3,.int .i64 k4,.int .i64 k5] 87)).alloc (.cells Fi 161));unfold Fi;rw[←hw];clear hw HW;obtain⟨x0,x1⟩:=Ef B0.out;go_wp2_with fail
 refine(HC.out _).mono ?_
 rintro e w1 ⟨rfl,he1⟩;have C0:=A4 (B0.out.ext he1);have C1:=A4 (B1.out.ext he1);have C2:=A4 (B2.out.ext he1);have C3:=A4 (B3.out.ext he1);have C4:=A4 (B4.out.ext he1);have CX:=A4 (HX.out.trans he1);clear x0 x1 B0 B1 B2 B3 B4 HX he1 HC;obtain⟨x0,x1⟩:=Ef C0.out;obtain⟨y0,y1,y2,y3,y4⟩:=Ta C3.out;have hs4:w.heap.size+1+1+1+1<w1.heap.size:=C4.out.lt;go_upto_region 6 with fail
 apply wp_region_lit
 refine wpList_load_row rfl 34 (.tmp 4) rfl w.heap.size rfl 34 #[.slice A n c,.int .i64 a] (0,0) _ C0.out Tryz.underlying34 rfl (by kernel_rfl) ?_
 refine wpList_load_row rfl 40 (.tmp 5) rfl (w.heap.size+1) rfl 40 rs (0,0) _ C1.out Tryz.underlying40 rfl (Cu hrs.out) ?_
 refine wpList_load_row rfl 87 (.tmp 7) rfl (w.heap.size+1+1+1) rfl 87 #[.int .i64 k1,.int .i64 k2,.int .i64 k3,.int .i64 k4,.int .i64 k5] (0,0) _ C3.out Tryz.underlying87 rfl (by kernel_rfl) ?_
 refine Ux rfl 185 0 1 2 (.tmp 29) (.tmp 30) (.tmp 31) rfl (.agg #[.slice A n c,.int .i64 a]) (.agg rs) (.agg #[.int .i64 k1,.int .i64 k2,.int .i64 k3,.int .i64 k4,.int .i64 k5]) rfl rfl rfl (Gd A n c a rs k1 k2 k3 k4 k5) (oK hrs.out) ?_
 refine Zn rfl 185 (.tmp 32) rfl (Gd A n c a rs k1 k2 k3 k4 k5) rfl ?_
 go_upto_region 7 with fail
 change Code.wp _ _ _ _ (w1.alloc (.cells (Gd A n c a rs k1 k2 k3 k4 k5) 185));have hx2:=A4 (Al.alloc w1 (.cells (Gd A n c a rs k1 k2 k3 k4 k5) 185));have D9:=A4 (An.new w1 185 (Gd A n c a rs k1 k2 k3 k4 k5));clear x0 x1 y0 y1 y2 y3 y4;generalize w1.alloc (.cells (Gd A n c a rs k1 k2 k3 k4 k5) 185)=w2 at*;obtain⟨x0,x1⟩:=Ef (C0.out.ext hx2.out);obtain⟨z0,z1⟩:=Ef (C2.out.ext hx2.out);have hs2:w1.heap.size+1≤w2.heap.size:=D9.out.lt;have HCl:=A4 (Cy (HL.out.ext ((CX.out.trans hx2.out).trans (Al.drew w2))) HA.out (by have:=HN.out;omega))
 have hd0:=A4 (Uk (A:=A) (n:=n) (c:=c) (a:=a) (k1:=k1) (k2:=k2) (k3:=k3) (k4:=k4) (k5:=k5) hrs.out);go_cut [] (fun wx=>∃(B:Option Addr) (d:Nat),Hid (An wx w1.heap.size 185 (Lj (Gd A n c a rs k1 k2 k3 k4 k5) 34 (Sy (.slice B n d) a fk fa)))∧Hid (Av wx (w1.heap.size+1) B n d l∧(B=none→d=0))∧Hid (Al w1 wx))
 case first=>
  refine wp_region_held_drew (S:=fun w'=>w'.cell? ⟨w.heap.size,0,none⟩=some (.slice A n c)∧w'.cell? ⟨w.heap.size,1,none⟩=some (.int .i64 a)∧w'.cell? ⟨w.heap.size+1+1,0,none⟩=some (.int .i64 fk)∧w'.cell? ⟨w.heap.size+1+1,1,none⟩=some (.int .i64 fa)) (by kernel_rfl) ⟨x0,x1,z0,z1⟩ (fun hHeld=>?_)
  refine Bo (i:=0) (v:=(.pointer (some ⟨w1.heap.size,0,none⟩))) rfl hHeld ?_
  refine Bo (i:=1) (v:=(.pointer (some ⟨w.heap.size,0,none⟩))) rfl hHeld ?_
  refine Bo (i:=2) (v:=(.slice A n c)) rfl hHeld ?_
  refine Bo (i:=4) (v:=(.pointer (some ⟨w.heap.size,1,none⟩))) rfl hHeld ?_
  refine Bo (i:=5) (v:=(.int .i64 a)) rfl hHeld ?_
  refine Bo (i:=7) (v:=(.agg #[.int .i64 fk,.int .i64 fa])) rfl hHeld ?_
  refine wpAnyH_ready (rs:=[3]) (by kernel_rfl) (by simp) ?_
  refine Ah rfl (fun K hK=>?_) Ak
  refine Bs rfl 16 #[.slice A n c] rfl (by kernel_rfl) (fun v w'=>∃B d,v=.slice B n d∧Av w' w2.drew.heap.size B n d l∧(B=none→d=0)∧Al w2.drew w') (HCl.out.mono fun e w' ⟨B,d,h1,h2,h3,h4⟩=>⟨_,h1,B,d,rfl,h2,h3,h4⟩) ?_
  rintro v w3 ⟨B,d,rfl,hO3,hB3,hx3⟩;have hb3:=(D9.out.ext (Al.drew w2)).ext hx3;refine hK.out _ _ ⟨hx3.cell x0,hx3.cell x1,hx3.cell z0,hx3.cell z1⟩ (fun hHeld=>?_)
  clear hK K
  try simp only[Ab,A7,Aa,Am,A6,Ac,Ad]
  refine Bo (i:=6) (v:=(.agg #[.slice B n d,.int .i64 a])) rfl hHeld ?_
  refine Bo (i:=8) (v:=(.agg #[.slice B n d,.int .i64 a,.slice none 0 0,.slice none 0 0,.slice none 0 0,.slice none 0 0,.slice none 0 0,.slice none 0 0,.slice none 0 0,.slice none 0 0,.slice none 0 0,.slice none 0 0,.slice none 0 0,.slice none 0 0,.slice none 0 0,.slice none 0 0,.slice none 0 0,.slice none 0 0,.slice none 0 0,.slice none 0 0,.slice none 0 0,.slice none 0 0,.slice none 0 0,.slice none 0 0,.slice none 0 0,.slice none 0 0,.slice none 0 0,.slice none 0 0,.slice none 0 0,.int .i64 fk,.int .i64 fa,.int .i64 0,.slice none 0 0])) rfl hHeld ?_
  refine Bo (i:=9) (v:=(.pointer (some ⟨w1.heap.size,0,none⟩))) rfl hHeld ?_
  refine Bo (i:=10) (v:=(.pointer (some ⟨w1.heap.size,34,none⟩))) rfl hHeld ?_
  refine wpAnyH_ready (rs:=[11]) (by kernel_rfl) (by simp) ?_
  refine Ah rfl (fun K hK=>?_) Ak
  refine Bv rfl 161 (.tmp 44) (.tmp 42) rfl w1.heap.size 34 (Sy (.slice B n d) a fk fa) rfl rfl 185 _ hb3 (Ge (J3 _ _ _ _)) (by rw[hd0.out,J3];exact Ai 67) (mD _ _ _ _ _ _) ?_
  have hxs:Al w1 (w3.setRow w1.heap.size (Lj (Gd A n c a rs k1 k2 k3 k4 k5) 34 (Sy (.slice B n d) a fk fa))):=((hx2.out.trans (Al.drew w2)).trans hx3).setRow (Ai _) _;have hbs:=hb3.setRow (Lj (Gd A n c a rs k1 k2 k3 k4 k5) 34 (Sy (.slice B n d) a fk fa));have hos:=Ay.setRow (Ay.lower hO3 (show w1.heap.size+1≤w2.drew.heap.size from hs2)) (Bx _) (Lj (Gd A n c a rs k1 k2 k3 k4 k5) 34 (Sy (.slice B n d) a fk fa))
  have HX3:=A4 hxs;have HB3:=A4 hbs;have HO3:=A4 (Be hos hB3);refine hK.out _ _ ?_ (fun hHeld=>?_)
  ·exact⟨hxs.cell (C0.out.cell 0),hxs.cell (C0.out.cell 1),hxs.cell (C2.out.cell 0),hxs.cell (C2.out.cell 1)⟩
  clear hK K hxs hbs hos
  try simp only[Ab,A7,Aa,Am,A6,Ac,Ad]
  refine wpAnyH_done (by kernel_rfl) ?_ _
  try go_wp2_with fail
  go_meet
  exact⟨B,d,HB3,HO3,HX3⟩
 case rest=>
  obtain⟨B,d,HB,HO,HE⟩:=hcut;clear x0 x1 z0 z1 HCl D9 hx2;obtain⟨S0,hS0⟩:∃S,Lj (Gd A n c a rs k1 k2 k3 k4 k5) 34 (Sy (.slice B n d) a fk fa)=S:=⟨_,rfl⟩;have hz0:S0.size=67:=by rw[←hS0,Q8 (by rw[hd0.out,J3];exact Ai 67)];exact hd0.out
  have hn0:∀j,j<27→S0[36+j]? = some (.slice none 0 0):=fun j hj=>by
   rw[←hS0,Cs (by rw[hd0.out,J3];exact Ai 67),if_neg (by omega),J3,if_pos (by omega),show 36+j-34=2+j by omega]
   match j,hj with
   |0,_=>rfl|1,_=>rfl|2,_=>rfl|3,_=>rfl|4,_=>rfl|5,_=>rfl|6,_=>rfl|7,_=>rfl|8,_=>rfl|9,_=>rfl|10,_=>rfl|11,_=>rfl|12,_=>rfl|13,_=>rfl|14,_=>rfl|15,_=>rfl|16,_=>rfl|17,_=>rfl|18,_=>rfl|19,_=>rfl|20,_=>rfl|21,_=>rfl|22,_=>rfl|23,_=>rfl|24,_=>rfl|25,_=>rfl|26,_=>rfl
   |j+27,h=>exact absurd h (by omega)
  have HS0:=A4 hS0;rw[hS0]at HB;have HZ:=A4 (Be hz0 hn0);clear hS0 hz0 hn0 hd0;go_wp2_with fail
  go_loopw [45] (fun s45 wx=>∃(i:Nat) (cs:Array Value),i≤27∧s45=.int .i64 i∧Hid (An wx w1.heap.size 185 cs)∧Hid (cs.size=67∧(∀k,k<36∨63≤k→cs[k]? = S0[k]?)∧(∀j,j<i→∃v,cs[36+j]? = some v∧Bg wx (w1.heap.size+1) v (rl j))∧(∀j,i≤j→j<27→cs[36+j]? = some (.slice none 0 0)))∧Hid (Av wx (w1.heap.size+1) B n d l)∧Hid (Al w1 wx)∧Hid (∀j,j<i→∀v,cs[36+j]? = some v→∀g',(Aj B n d).ownBlock=some g'→v.ownBlock≠some g')) (fun s45 _=>27-(intOf s45).toNat)
  case atStart=>exact⟨0,S0,by omega,rfl,HB,A4 ⟨HZ.out.1,fun _ _=>rfl,fun j hj=>by omega,fun j _ hj=>HZ.out.2 j hj⟩,A4 HO.out.1,HE,A4 (fun j hj=>absurd hj (Nat.not_lt_zero j))⟩
  case round=>
   have HBn:=A4 HO.out.2;clear HB HO HE;obtain⟨i,cs,hi,rfl,HB,HI,HO,HE,HFr⟩:=hrel;by_cases hlt:i<27
   ·obtain⟨v,hv,A2,n2,c2,rfl,hI2,hA2,hn2⟩:=HR.out.2 i hlt
    have hc:wr.cell? ⟨w.heap.size+1,i,none⟩=some (.slice A2 n2 c2):=by rw[(C1.out.ext HE.out).cell i];exact hv
    have HC:=A4 (Cy (hI2.ext ((CX.out.trans HE.out).trans (Al.drew wr))) hA2 hn2);have HA2:=A4 hn2;clear hv hI2 hA2 hn2;go_upto_region 11 with fail
    go_region_law (first
     |(
      refine Bs rfl 16 #[.slice A2 n2 c2] rfl (by kernel_rfl) (fun v w'=>∃B d,v=.slice B n2 d∧Av w' wr.drew.heap.size B n2 d (rl i)∧(B=none→d=0)∧Al wr.drew w') (HC.out.mono fun e w' ⟨B,d,h1,h2,h3,h4⟩=>⟨_,h1,B,d,rfl,h2,h3,h4⟩) ?_
      rintro v w3 ⟨B2,d2,rfl,hO3,hB3,hx3⟩;have hb3:=(HB.out.ext (Al.drew wr)).ext hx3;have c36:w3.cell? ⟨w1.heap.size,36+i,none⟩=some (.slice none 0 0):=by rw[hb3.cell];exact HI.out.2.2.2 i (Ai _) hlt
      have f36:=hb3.frozen (36+i)))
    all_goals
     have hxx:=(Al.drew wr).trans hx3;have HB2:=A4 (hb3.set_ (36+i) (.slice B2 n2 d2));have HE2:=A4 ((HE.out.trans hxx).setCell (p:=⟨w1.heap.size,36+i,none⟩) (Ai _) (.slice B2 n2 d2));have HO2:=A4 (Ay.setCell (Ay.ext HO.out hxx) (p:=⟨w1.heap.size,36+i,none⟩) (Bx _) (.slice B2 n2 d2));have hgs:w1.heap.size+1≤wr.heap.size:=HB.out.lt;have HR2:Hid (Bg (w3.setCell ⟨w1.heap.size,36+i,none⟩ (.slice B2 n2 d2)) (w1.heap.size+1) (.slice B2 n2 d2) (rl i)):=A4 (Bg.setCell ⟨B2,n2,d2,rfl,Ay.lower hO3 (show w1.heap.size+1≤wr.drew.heap.size from hgs),hB3,HA2.out⟩ (Bx _) _)
     have HI2:Hid ((cs.setIfInBounds (36+i) (.slice B2 n2 d2)).size=67∧(∀k,k<36∨63≤k→(cs.setIfInBounds (36+i) (.slice B2 n2 d2))[k]? = S0[k]?)∧(∀j,j<i+1→∃v,(cs.setIfInBounds (36+i) (.slice B2 n2 d2))[36+j]? = some v∧Bg (w3.setCell ⟨w1.heap.size,36+i,none⟩ (.slice B2 n2 d2)) (w1.heap.size+1) v (rl j))∧(∀j,i+1≤j→j<27→(cs.setIfInBounds (36+i) (.slice B2 n2 d2))[36+j]? = some (.slice none 0 0))):=A4 (by
      refine⟨by simpa using HI.out.1,fun k hk=>?_,fun j hj=>?_,fun j h1 h2=>?_⟩
      ·rw[D1 (by omega)];exact HI.out.2.1 k hk
      ·by_cases hji:j=i
       ·subst hji
        exact⟨_,by rw[J0d,if_pos (by have:=HI.out.1;omega)],HR2.out⟩
       ·obtain⟨v,h1,h2⟩:=HI.out.2.2.1 j (by omega)
        exact⟨v,by rw[D1 (by omega)];exact h1,(h2.ext hxx).setCell (p:=⟨w1.heap.size,36+i,none⟩) (Bx _) _⟩
      ·rw[D1 (by omega)];exact HI.out.2.2.2 j (by omega) h2)
     have HFr2:Hid (∀j,j<i+1→∀v,(cs.setIfInBounds (36+i) (.slice B2 n2 d2))[36+j]? = some v→∀g',(Aj B n d).ownBlock=some g'→v.ownBlock≠some g'):=A4 (fun j hj v hv g' hg'=>by
      by_cases hji:j=i
      ·subst hji
       rw[J0d,if_pos (by have:=HI.out.1;omega)]at hv
       injection hv with hv;subst hv;intro h;have h1:=(Ay.blk hO3 g' h).1;have h2:=(Ay.blk HO.out g' hg').2;have h3:wr.heap.size≤g':=h1;omega
      ·rw[D1 (by omega)]at hv
       exact HFr.out j (by omega) v hv g' hg')
     clear hb3 c36 f36 hx3 hxx hO3 hB3 hc HC HB HI HO HE HA2 HR2 hgs HFr;go_wp2_with fail
     go_roundw
     case rel=>exact⟨i+1,_,by omega,by go_num,HB2,HI2,HO2,HE2,HFr2⟩
     case measure=>simp[intOf];omega
   ·obtain rfl:i=27:=by omega
    obtain⟨z0,z1⟩:=Ef (C2.out.ext HE.out);go_upto_block 2 with fail
    go_cut [] (fun wx=>wx=wr∧Hid (fk=0∨fk=102∨fk=70∨fk=116∨fk=84))
    case first=>
     by_cases hfk:fk=0∨fk=102∨fk=70∨fk=116∨fk=84
     ·have HFK:=A4 hfk
      rcases hfk with rfl|rfl|rfl|rfl|rfl<;>(go_wp2_with fail;go_meet;exact⟨rfl,HFK⟩)
     ·have N0:=trivial;exact yG
    case rest=>
     obtain⟨hcut,HFK⟩:=hcut;generalize wc=wd at*;subst hcut;clear z0 z1;obtain⟨y0,y1,y2,y3,y4⟩:=Ta (C3.out.ext HE.out);go_upto_block 3 with fail
     go_cut [] (fun wx=>wx=wd∧Hid (k3=0∨k3=100∨k3=99∨k3=121))
     case first=>
      by_cases hk3:k3=0∨k3=100∨k3=99∨k3=121
      ·have HK3:=A4 hk3
       rcases hk3 with rfl|rfl|rfl|rfl<;>(go_wp2_with fail;go_meet;exact⟨rfl,HK3⟩)
      ·have N1:=trivial;exact yG
     case rest=>
      obtain⟨hcut,HK3⟩:=hcut;generalize wc=wd2 at*;subst hcut;clear y0 y1 y2 y3 y4;have hd0:=Uk (A:=A) (n:=n) (c:=c) (a:=a) (k1:=k1) (k2:=k2) (k3:=k3) (k4:=k4) (k5:=k5) hrs.out;have hsg:34+(Sy (.slice B n d) a fk fa).size≤(Gd A n c a rs k1 k2 k3 k4 k5).size:=by rw[hd0,J3];exact Ai 67
      have hlo:∀k,k<34→cs[k]? = (Gd A n c a rs k1 k2 k3 k4 k5)[k]? := fun k hk=>by rw[HI.out.2.1 k (.inl (by omega)),←HS0.out,Cs hsg,if_pos hk]
      have hhi:∀k,34≤k→k<67→(k<36∨63≤k)→cs[k]? = (Sy (.slice B n d) a fk fa)[k-34]? := fun k h1 h2 h3=>by rw[HI.out.2.1 k h3,←HS0.out,Cs hsg,if_neg (by omega),if_pos (by rw[J3];omega)]
      have hmid:∀k,29≤k→k<34→(Gd A n c a rs k1 k2 k3 k4 k5)[k]? = (#[.int .i64 k1,.int .i64 k2,.int .i64 k3,.int .i64 k4,.int .i64 k5]:Array Value)[k-29]? := fun k h1 h2=>by
       have hr:=hrs.out;simp only[Gd,Array.getElem?_append,Array.size_append,hr,List.size_toArray,List.length_cons,List.length_nil];rw[if_pos (by omega),if_neg (by omega)]
      have HD:Hid (Mk wd2 w1.heap.size cs A n c a rs rl k1 k2 k3 k4 k5 fk fa B d):=A4
       {
        size:=HI.out.1
        text:=by
         have hr:=hrs.out;rw[hlo 0 (by omega)]
         exact I51
        at_:=by
         have hr:=hrs.out;rw[hlo 1 (by omega)]
         exact I51
        regs:=fun j hj=>by
         have hr:=hrs.out;rw[hlo (2+j) (by omega)]
         simp only[Gd,Array.getElem?_append,Array.size_append,hr,List.size_toArray,List.length_cons,List.length_nil];rw[if_pos (by omega),if_pos (by omega),if_neg (by omega),show 2+j-2=j by omega]
        c29:=by rw[hlo 29 (by omega),hmid 29 (by omega) (by omega)];rfl
        c30:=by rw[hlo 30 (by omega),hmid 30 (by omega) (by omega)];rfl
        c31:=by rw[hlo 31 (by omega),hmid 31 (by omega) (by omega)];rfl
        c32:=by rw[hlo 32 (by omega),hmid 32 (by omega) (by omega)];rfl
        c33:=by rw[hlo 33 (by omega),hmid 33 (by omega) (by omega)];rfl
        out:=by rw[hhi 34 (by omega) (by omega) (by omega)];rfl
        oat:=by rw[hhi 35 (by omega) (by omega) (by omega)];rfl
        oregs:=HI.out.2.2.1
        far:=HFr.out
        c63:=by rw[hhi 63 (by omega) (by omega) (by omega)];rfl
        c64:=by rw[hhi 64 (by omega) (by omega) (by omega)];rfl
        c65:=by rw[hhi 65 (by omega) (by omega) (by omega)];rfl
        c66:=by rw[hhi 66 (by omega) (by omega) (by omega)];rfl }
      have HC:=A4 (HH1.out ⟨HFK.out,HK3.out⟩ wd2 w1.heap.size cs B d (CX.out.trans HE.out) (by omega) HB.out HD.out HO.out HBn.out)
      have C4d:=A4 (C4.out.ext HE.out);have HXd:=A4 (CX.out.trans HE.out);clear hd0 hsg hlo hhi hmid HH1 HD HB HI HO HE C0 C1 C2 C3 C4 CX HZ HS0 HBn HL HA HR hrs;go_wp2_with fail
      refine HC.out.mono ?_
      rintro e w4 ⟨er,cs',rfl,hgr,hOk,hok⟩;have HNo:=A4 hOk;have B4:=A4 (An.grown C4d.out hgr (fun e=>by injection e with e;omega))
      have HX4:=A4 (Below.grown HXd.out hgr HXd.out.hsize (fun k e=>by injection e with e;omega))
      have HOK:=A4 hok;clear HC C4d HXd hgr hok hOk;by_cases her:er=0
      ·subst her
       obtain⟨hb,hz,ho,hp⟩:=HOK.out rfl;have hvs:(cs'.extract 34 67).size=33:=by simp[hz]
       have HV:Hid (∀j v,(cs'.extract 34 67)[j]? = some v→cs'[34+j]? = some v):=A4 (fun j v hj=>by
        rw[Array.getElem?_extract]at hj;split at hj
        ·exact hj
        ·cases hj)
       have H1V:Hid ((cs'.extract 34 67).all (·.oneCell')=true):=A4 (by
        rw[Array.all_eq_true_iff_forall_mem];intro v hv;obtain⟨j,hj⟩:=Array.mem_iff_getElem?.1 hv;exact ho (34+j) v (by omega) (HV.out j v hj))
       have HSz:=A4 hvs;have HBd:=A4 hb;have HPo:=A4 hp;have HZ':=A4 hz;clear hb hz ho hp hvs HOK;go_wp2_with ((refine Mw rfl 161 (.tmp 84) rfl w1.heap.size 34 rfl 185 cs' (cs'.extract 34 67) (0,0) _ HBd.out HV.out Tryz.underlying161 rfl (Ge HSz.out) ?_)
        <;> (refine wpList_store_row rfl 161 (.tmp 8) (.tmp 85) rfl (w.heap.size+1+1+1+1) (cs'.extract 34 67) rfl rfl 161 Fi B4.out (Ge HSz.out) (by rw[HSz.out];rfl) H1V.out ?_))
       have hres:=B4.out.setRow (cs'.extract 34 67);refine bodyPost_ret (v:=.tuple #[.agg (cs'.extract 34 67),.int .i64 0]) ?_ rfl ⟨Al.setRow HX4.out (by omega) _,.inr ⟨cs',HZ'.out,H1V.out,rfl,HPP.out _ _ _ HPo.out (Eo _ _ _)⟩⟩
       exact Dx rfl _ _ (w.heap.size+1+1+1+1) 161 _ _ _ _ rfl rfl hres Tryz.underlying161 rfl (Ge HSz.out)
      ·have N2:=trivial;exact yG
end
