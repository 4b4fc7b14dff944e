/-
  Part ZRopeT.
-/
import Derived.Test.YtkaefdmhlmlhbaaGreatZRopeW
import Derived.Deep.RegionLaw
import Derived.Laws.EntriesVeiled
set_option maxRecDepth 100000
set_option maxHeartbeats 16000000
set_option linter.unusedVariables false
set_option linter.unusedSimpArgs false
namespace Go.Proofs.YtkaefdmhlmlhbaaGreat
open Go.RowKit
open _root_.Go.Proofs.Tryz
open _root_.List renaming getElem?_cons_zero→Af,getElem?_toArray→Ah,length_append→Be,nil_append→Jk
open _root_.Nat renaming le_refl→Aj
open Value renaming slice→Ak
section
variable {xs:List Int}{w:World}{b0 g1 g2 T:Nat}{A a:Option Addr}
theorem V5 (w:World)(p:Addr)(u:Value):w.grownBy (w.setCell p u) (some p.block):=
 ⟨rfl,rfl,rfl,by simp,fun k hk ai=>by
  unfold World.setCell;split<;>(simp only[Array.getElem?_modify];rw[if_neg (fun e=>ai (by rw[e]))])⟩
theorem Bd.setNe {base e z n c:Nat}{xs:List Value}(h:Bd w base e z A n c xs){p:Addr}(ai:(Ak A n c).ownBlock≠some p.block)(u:Value):Bd (w.setCell p u) base e z A n c xs:=
 Bd.kept h (V5 w p u) (.inr ai)
theorem J6x {k:Int}:∀u∈(#[.int .i64 k]:Array Value).toList,u.oneCell'=true:=by
 intro u hu;simp at hu;subst hu
 rfl
def Je (w:World)(b0 g1 g2 T:Nat)(xs:List Int):Prop:=
 ∃A c,Aq w g1 25 #[.slice A xs.length c]∧Aq w g2 T #[.func (.func 77) #[] #[some g2,some g1]]∧Ba w b0 A xs.length c xs∧
  (Ak A xs.length c).ownBlock≠some g1∧(Ak A xs.length c).ownBlock≠some g2∧b0≤w.heap.size
theorem Je.cells (h:Je w b0 g1 g2 T xs):w.cell? ⟨g2,0,none⟩=some (.func (.func 77) #[] #[some g2,some g1]):=by
 obtain⟨A,c,h1,h2,h3⟩:=h;have:=h2.cell 0
 simpa using this
theorem Je.drew (h:Je w b0 g1 g2 T xs):Je w.drew b0 g1 g2 T xs:=by
 obtain⟨A,c,h1,h2,h3,h4⟩:=h;exact⟨A,c,h1,h2,Ba.ext h3 (An.drew w),h4⟩
theorem Je.of {b0 g1 g2 T q c:Nat}(hq:xs.length=q)(h1:Aq w g1 25 #[.slice A q c])
 (h2:Aq w g2 T #[.func (.func 77) #[] #[some g2,some g1]]) (h3:Ba w b0 A q c xs) (h4:(Ak A q c).ownBlock≠some g1) (h5:(Ak A q c).ownBlock≠some g2) (h6:b0≤w.heap.size):Je w b0 g1 g2 T xs:=by
 subst hq;exact⟨A,c,h1,h2,h3,h4,h5,h6⟩
theorem Je.pushed {w1 w3:World}{b0 g1 g2 T n q c c2:Nat}{A A2:Option Addr}{ch:Int}{v:Value}(db:Bd w3 b0 3 1 A2 (q+1) c2 (xs.map (Value.int .i64)++(#[.int .i64 ch]:Array Value).toList))
 (ap:Aq w3 g1 25 #[v]) (bn:Aq w3 g2 T #[.func (.func 77) #[] #[some g2,some g1]])
 (av:w1.drew.grownBy w3 (Ak A n c).ownBlock) (cf:(Ak A2 (q+1) c2).ownBlock=(Ak A n c).ownBlock∨∃g,w1.drew.heap.size≤g∧(Ak A2 (q+1) c2).ownBlock=some g)
 (hq:xs.length=q) (ep:(Ak A n c).ownBlock≠some g1) (kw:(Ak A n c).ownBlock≠some g2) (Ik:g1<w1.heap.size) (Il:g2<w1.heap.size) (ai:g1≠g2) (fy:b0≤w1.heap.size):
 Je (w3.setCell ⟨g1,0,none⟩ (.slice A2 (q+1) c2)) b0 g1 g2 T (xs++[ch]):=by
 have e1:(Ak A2 (q+1) c2).ownBlock≠some g1:=by
  rcases cf with h|⟨g,h,h'⟩
  ·rw[h];exact ep
  ·exact I113
 have e2:(Ak A2 (q+1) c2).ownBlock≠some g2:=by
  rcases cf with h|⟨g,h,h'⟩
  ·rw[h];exact kw
  ·exact I113
 refine Je.of (by simp[hq]) (by simpa using ap.set_ 0 (.slice A2 (q+1) c2)) (Aq.setNe bn (p:=⟨g1,0,none⟩) ai _) (by
  have:=Bd.setNe db (p:=⟨g1,0,none⟩) e1 (.slice A2 (q+1) c2)
  simpa[Ba]using this) e1 e2 (by
  have h1:=av.size;have h2:w1.drew.heap.size=w1.heap.size:=rfl;simp;omega)
def cC (t:Tr):Prop:=∀(w0:World) (a:Option Addr) (b0 g1 g2 T:Nat) (xs:List Int) (w:World),By w0 a t→An w0 w→w0.heap.size≤b0→w0.heap.size≤g1→g1≠g2→xs.length+t.sz≤8192→Je w b0 g1 g2 T xs→
 Calls prog 77 #[.pointer a,.pointer (some ⟨g2,0,none⟩),.pointer (some ⟨g1,0,none⟩)] w fun e w'=>e=.returned (.tuple #[])∧An w0 w'∧Je w' b0 g1 g2 T (xs++t.toL)
theorem sP:cC .nil:=by
 intro w0 a b0 g1 g2 T xs w ht he hb hg ai hs hl;obtain rfl:=ht;have H:=A6 hl;clear hl;go_enter func77,ntmps77
 go_wp2_with fail
 go_end0
 exact⟨rfl,he,by simpa[Tr.toL]using H.out⟩
theorem mK {l r:Tr}{ch:Int}(IHl:Hid (cC l))(IHr:Hid (cC r)):cC (.node l ch r):=by
 intro w0 a b0 g1 g2 T xs w ht he hb hg ai hs hl;obtain⟨i0,hi,bm,bz,az⟩:=info_parts Cd;have dl:xs.length+l.sz+1+r.sz≤8192:=by unfold Tr.sz at hs;omega
 clear hs;obtain⟨gn,la,ra,rfl,hB,qv,ou⟩:=ht;have BE:=hB.lt;have n0:=hB.cell 0;have n1:=hB.cell 1;have n2:=hB.cell 2;simp only[Ah,Af,List.getElem?_cons_succ]at n0 n1 n2;have XP:Hid (∀w1,An w0 w1→w1.cell? ⟨gn,0,none⟩=some (.pointer la)):=A6 fun w1 h1=>h1.cell n0
 have HN1:Hid (∀w1,An w0 w1→w1.cell? ⟨gn,1,none⟩=some (.pointer ra)):=A6 fun w1 h1=>h1.cell n1
 have kv:Hid (∀w1,An w0 w1→w1.cell? ⟨gn,2,none⟩=some (.int .i64 ch)):=A6 fun w1 h1=>h1.cell n2
 have IL:Hid (∀w1,An w0 w1→Je w1 b0 g1 g2 T xs→Calls prog 77 #[.pointer la,.pointer (some ⟨g2,0,none⟩),.pointer (some ⟨g1,0,none⟩)] w1 fun e w'=>e=.returned (.tuple #[])∧An w0 w'∧Je w' b0 g1 g2 T (xs++l.toL)):=
  A6 fun w1 h1 h2=>IHl.out w0 la b0 g1 g2 T xs w1 qv h1 hb hg ai (by omega) h2
 have IR:Hid (∀w1,An w0 w1→Je w1 b0 g1 g2 T (xs++l.toL++[ch])→Calls prog 77 #[.pointer ra,.pointer (some ⟨g2,0,none⟩),.pointer (some ⟨g1,0,none⟩)] w1 fun e w'=>e=.returned (.tuple #[])∧An w0 w'∧Je w' b0 g1 g2 T (xs++l.toL++[ch]++r.toL)):=
  A6 fun w1 h1 h2=>IHr.out w0 ra b0 g1 g2 T _ w1 ou h1 hb hg ai (by rw[Be,Be,Tr.len];simp;omega) h2
 have HE:Hid (xs++(Tr.node l ch r).toL=xs++l.toL++[ch]++r.toL):=A6 (by rw[Tr.toL_node];simp)
 have ab:(xs++l.toL).length≤8191:=by rw[Be,Tr.len];omega
 clear IHl IHr n0 n1 n2 hB qv ou dl;rw[HE.out];clear HE;have HD:=A6 (Je.drew hl);have SX:=he.to_drew;have k2:=hl.cells;have m0:=XP.out w he;clear hl he;go_enter func77,ntmps77
 go_wp2_with fail
 go_region_held3 (fun w'=>w'.cell? ⟨g2,0,none⟩=some (.func (.func 77) #[] #[some g2,some g1])∧w'.cell? ⟨gn,0,none⟩=some (.pointer la))
  (first|assumption|exact⟨k2,m0⟩|exact⟨hL1.cells,XP.out _ lp⟩)
  ((go_at_call 77;refine(IL.out _ SX HD.out).mono ?_;rintro e w1 ⟨rfl,lp,hL1⟩))
 clear k2 m0 HD SX IL XP;obtain⟨A,c,al,ak,ac,ep,kw,fy⟩:=hL1;generalize mN:xs++l.toL=ys at*;have HY:=A6 mN;clear mN;obtain⟨q,hq⟩:∃q,ys.length=q:=⟨_,rfl⟩;rw[hq]at al ac ep kw ab;have HQ:=A6 hq;clear hq;have k1:=al.cell 0;simp only[Ah,Af]at k1;have m2:=kv.out w1 lp;have a1:(w1.drew.alloc (.cells #[ch] 3)).cell? ⟨g1,0,none⟩=some (.slice A q c):=An.cell (An.alloc w1.drew _) k1;have a2:(w1.drew.alloc (.cells #[ch] 3)).cell? ⟨gn,2,none⟩=some (.int .i64 ch):=An.cell (An.alloc w1.drew _) m2;have jw:=Bd.ext ac (An.drew w1);have Ik:=al.lt;have Il:=ak.lt;have AG:=lp.to_drew;go_wp2_with fail
 go_region_law (first
  |(
   refine Pz rfl (.tmp 12) (.tmp 17) 25 rfl w0 b0 3 i0 _ 1 8 underlying25 hi bm bz az rfl (by decide) A _ c _ rfl jw #[ch] rfl J6x rfl (by unfold maxLen;omega) (by omega) AG hb fy ?_
   intro A2 c2 w3 db av cf bg;have ap:=Aq.grown (al.drewN 1) av (fun e=>ep e.symm)
   have bn:=Aq.grown (ak.drewN 1) av (fun e=>kw e.symm)
   have c0:=ap.cell 0;have f0:=ap.frozen 0;simp only[Ah,Af]at c0))
 all_goals
  have hS:=Je.pushed db ap bn av cf HQ.out ep kw Ik Il ai fy;have nf:=An.setCell bg (p:=⟨g1,0,none⟩) hg (.slice A2 (q+1) c2);clear db ap bn av cf bg c0 f0 k1 m2 a1 a2 jw Ik Il AG al ak ac ep kw fy kv
  revert hS nf
  generalize w3.setCell ⟨g1,0,none⟩ (.slice A2 (q+1) c2)=w4;intro hS nf;have HD:=A6 hS.drew;have SX:=nf.to_drew;have k2:=hS.cells;have m1:=HN1.out w4 nf;clear hS;go_wp2_with fail
  go_region_held3 (fun w'=>w'.cell? ⟨g2,0,none⟩=some (.func (.func 77) #[] #[some g2,some g1])∧w'.cell? ⟨gn,1,none⟩=some (.pointer ra))
   (first|assumption|exact⟨k2,m1⟩|exact⟨Oz.cells,HN1.out _ nv⟩)
   ((go_at_call 77;refine(IR.out _ SX HD.out).mono ?_;rintro e w5 ⟨rfl,nv,Oz⟩))
  go_wp2_with fail
  go_end0
  exact⟨rfl,nv,by rw[HY.out];exact Oz⟩
theorem aQ:∀t:Tr,cC t
 |.nil=>sP
 |.node l ch r=>mK (A6 (aQ l)) (A6 (aQ r))
theorem iT {w w1:World}{n:Nat}(c0:w1.cell? ⟨w,0,none⟩=some (.pointer a))(he:An w w1)(hn:n≤100000):
 (((w1.alloc (.cells (madeCells #[(0:Int)] n) 3)).alloc (.cells #[.slice (some ⟨w1,0,none⟩) 0 n] 25)).alloc (.cells #[.func (.func 77) #[] #[.pointer (some ⟨w1.heap.size+1+1,0,none⟩),.pointer (some ⟨w1.heap.size+1,0,none⟩)]] 152)).cell? ⟨w1.heap.size+1+1,0,none⟩=some (.func (.func 77) #[] #[.pointer (some ⟨w1.heap.size+1+1,0,none⟩),.pointer (some ⟨w1.heap.size+1,0,none⟩)])∧
 (((w1.alloc (.cells (madeCells #[(0:Int)] n) 3)).alloc (.cells #[.slice (some ⟨w1,0,none⟩) 0 n] 25)).alloc (.cells #[.func (.func 77) #[] #[.pointer (some ⟨w1.heap.size+1+1,0,none⟩),.pointer (some ⟨w1.heap.size+1,0,none⟩)]] 152)).cell? ⟨w,0,none⟩=some (.pointer a)∧
 Je (((w1.alloc (.cells (madeCells #[(0:Int)] n) 3)).alloc (.cells #[.slice (some ⟨w1,0,none⟩) 0 n] 25)).alloc (.cells #[.func (.func 77) #[] #[.pointer (some ⟨w1.heap.size+1+1,0,none⟩),.pointer (some ⟨w1.heap.size+1,0,none⟩)]] 152)) w1.heap.size (w1.heap.size+1) (w1.heap.size+1+1) 152 []∧
 An w1 (((w1.alloc (.cells (madeCells #[(0:Int)] n) 3)).alloc (.cells #[.slice (some ⟨w1,0,none⟩) 0 n] 25)).alloc (.cells #[.func (.func 77) #[] #[.pointer (some ⟨w1.heap.size+1+1,0,none⟩),.pointer (some ⟨w1.heap.size+1,0,none⟩)]] 152)):=by
 have dg:Bd (w1.alloc (.cells (madeCells #[(0:Int)] n) 3)) w1.heap.size 3 1 (some ⟨w1,0,none⟩) 0 n []:=
  World.ownsRow_made w1 _ _ (Aj _) (by unfold maxLen;omega) (by simp[size_madeCells])
 have e0:=An.alloc w1 (.cells (madeCells #[(0:Int)] n) 3);have z0:(w1.alloc (.cells (madeCells #[(0:Int)] n) 3)).heap.size=w1.heap.size+1:=by simp
 generalize w1.alloc (.cells (madeCells #[(0:Int)] n) 3)=W1 at*;have b1:=Aq.new W1 25 #[.slice (some ⟨w1,0,none⟩) 0 n];have jv:=Bd.ext dg (An.alloc W1 (.cells #[.slice (some ⟨w1,0,none⟩) 0 n] 25));have e1:=e0.trans (An.alloc W1 (.cells #[.slice (some ⟨w1,0,none⟩) 0 n] 25));have z1:(W1.alloc (.cells #[.slice (some ⟨w1,0,none⟩) 0 n] 25)).heap.size=w1.heap.size+1+1:=by simp[z0]
 rw[z0]at b1;generalize W1.alloc (.cells #[.slice (some ⟨w1,0,none⟩) 0 n] 25)=W2 at*;have b2:=Aq.new W2 152 #[.func (.func 77) #[] #[.pointer (some ⟨w1.heap.size+1+1,0,none⟩),.pointer (some ⟨w1.heap.size+1,0,none⟩)]];have dh:=Bd.ext jv (An.alloc W2 (.cells #[.func (.func 77) #[] #[.pointer (some ⟨w1.heap.size+1+1,0,none⟩),.pointer (some ⟨w1.heap.size+1,0,none⟩)]] 152));have e2:=e1.trans (An.alloc W2 (.cells #[.func (.func 77) #[] #[.pointer (some ⟨w1.heap.size+1+1,0,none⟩),.pointer (some ⟨w1.heap.size+1,0,none⟩)]] 152));have b1':=b1.ext (An.alloc W2 (.cells #[.func (.func 77) #[] #[.pointer (some ⟨w1.heap.size+1+1,0,none⟩),.pointer (some ⟨w1.heap.size+1,0,none⟩)]] 152));have z2:(W2.alloc (.cells #[.func (.func 77) #[] #[.pointer (some ⟨w1.heap.size+1+1,0,none⟩),.pointer (some ⟨w1.heap.size+1,0,none⟩)]] 152)).heap.size=w1.heap.size+1+1+1:=by simp[z1]
 rw[z1]at b2;generalize W2.alloc (.cells #[.func (.func 77) #[] #[.pointer (some ⟨w1.heap.size+1+1,0,none⟩),.pointer (some ⟨w1.heap.size+1,0,none⟩)]] 152)=W at*;have k3:=b2.cell 0;refine⟨by simpa using k3,e2.cell c0,Je.of rfl b1' b2 dh ?_ ?_ ?_,e2⟩
 ·simp[Value.ownBlock]
 ·simp[Value.ownBlock];omega
 ·simp[z2];omega
theorem zR {t:Tr}(h:By w a t)(hz:t.sz≤8192):
 Calls prog 53 #[.agg #[.pointer a]] w fun e w'=>∃A c,e=.returned (.slice A t.sz c)∧Ba w' w.heap.size A t.sz c t.toL∧An w w':=by
 obtain⟨i0,hi,bm,bz,az⟩:=info_parts Cd;have f6:∀u:World,(Instr.makeSlice 25 (.int .i64 0) (.int .i64 (t.sz:Int))).run prog u=
  .ok (.slice (some ⟨u,0,none⟩) 0 t.sz) (u.alloc (.cells (madeCells #[(0:Int)] t.sz) 3)):=fun u=>by
  have h:=run_make (P:=prog) u 25 3 i0 (.int .i64 0) underlying25 hi bm .i64 .i64 0 (t.sz:Int) (by omega) (by omega) (by rw[az];omega) (by omega)
  simpa[bz,Value.cells]using h
 have hx:=An.alloc w (.cells #[.pointer a] 90);have sy:=A6 (aN (By.ext hx h));have HT:=A6 h;clear hi h;go_enter func53,ntmps53
 go_wp2_with fail
 refine sy.out.mono ?_
 rintro e w1 ⟨rfl,aj⟩;have au:=hx.trans aj;have c0:w1.cell? ⟨w,0,none⟩=some (.pointer a):=by
  exact aj.cell (by simp)
 obtain⟨k3,c4,hL,hE⟩:=iT c0 au (n:=t.sz) (by omega)
 have jo:=au.hsize;have HC:=A6 (aQ t _ a _ _ _ _ [] _ (By.ext au HT.out) hE (Aj _) (by omega) (by omega) (by simpa using hz) hL)
 clear hL hE;go_wp2_with fail
 refine HC.out.mono ?_
 rintro e w2 ⟨rfl,OA,UF⟩;obtain⟨A,c,al,ak,ac,_⟩:=UF;have k1:=al.cell 0;simp only[Ah,Af,Jk,Tr.len]at k1;clear k3 c4 HC;have HW:Hid (Ba w2 w.heap.size A t.sz c t.toL):=A6 (by have h:=Bd.lower ac jo;simp only[Jk,Tr.len]at h;exact h)
 clear ac al ak;have SY:=au.trans OA;go_wp2_with fail
 go_ret
 exact⟨A,c,rfl,HW.out,SY⟩
end
