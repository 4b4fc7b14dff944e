/-
  Part ZRopeT.
-/
import Derived.Test.YtkaefdmhlmlhbaaGreatZRopeW
import Derived.Deep.RegionLaw
import Derived.Laws.EntriesVeiled
set_option maxRecDepth 100000
set_option maxHeartbeats 16000000
set_option linter.unusedVariables false
set_option linter.unusedSimpArgs false
namespace Go.Proofs.YtkaefdmhlmlhbaaGreat
open Go.RowKit
open _root_.List renaming getElem?_cons_zero→Af,getElem?_toArray→Ah,length_append→Ba
open _root_.Nat renaming le_refl→Aj
open Value renaming slice→Ak
section
variable {xs:List Int}{w:World}{b0 g1 g2 T:Nat}{A a:Option Addr}
theorem Ty (w:World)(p:Addr)(u:Value):w.grownBy (w.setCell p u) (some p.block):=
 ⟨rfl,rfl,rfl,by simp,fun k hk hne=>by
  unfold World.setCell;split<;>(simp only[Array.getElem?_modify];rw[if_neg (fun e=>hne (by rw[e]))])⟩
theorem Bd.setNe {base e z n c:Nat}{xs:List Value}(h:Bd w base e z A n c xs){p:Addr}(hne:(Ak A n c).ownBlock≠some p.block)(u:Value):Bd (w.setCell p u) base e z A n c xs:=
 Bd.kept h (Ty w p u) (.inr hne)
theorem J2n {k:Int}:∀u∈(#[.int .i64 k]:Array Value).toList,u.oneCell'=true:=by
 intro u hu;simp at hu;subst hu
 rfl
def Hy (w:World)(b0 g1 g2 T:Nat)(xs:List Int):Prop:=
 ∃A c,Aq w g1 25 #[.slice A xs.length c]∧Aq w g2 T #[.func (.func 77) #[] #[.pointer (some ⟨g2,0,none⟩),.pointer (some ⟨g1,0,none⟩)]]∧Av w b0 A xs.length c xs∧
  (Ak A xs.length c).ownBlock≠some g1∧(Ak A xs.length c).ownBlock≠some g2∧b0≤w.heap.size
theorem Hy.cells (h:Hy w b0 g1 g2 T xs):w.cell? ⟨g2,0,none⟩=some (.func (.func 77) #[] #[.pointer (some ⟨g2,0,none⟩),.pointer (some ⟨g1,0,none⟩)]):=by
 obtain⟨A,c,h1,h2,h3⟩:=h;have:=h2.cell 0
 simpa using this
theorem Hy.drew (h:Hy w b0 g1 g2 T xs):Hy w.drew b0 g1 g2 T xs:=by
 obtain⟨A,c,h1,h2,h3,h4⟩:=h;exact⟨A,c,h1,h2,Av.ext h3 (An.drew w),h4⟩
theorem Hy.of {b0 g1 g2 T q c:Nat}(hq:xs.length=q)(h1:Aq w g1 25 #[.slice A q c])
 (h2:Aq w g2 T #[.func (.func 77) #[] #[.pointer (some ⟨g2,0,none⟩),.pointer (some ⟨g1,0,none⟩)]]) (h3:Av w b0 A q c xs) (h4:(Ak A q c).ownBlock≠some g1) (h5:(Ak A q c).ownBlock≠some g2) (h6:b0≤w.heap.size):Hy w b0 g1 g2 T xs:=by
 subst hq;exact⟨A,c,h1,h2,h3,h4,h5,h6⟩
theorem Hy.pushed {w1 w3:World}{b0 g1 g2 T n q c c2:Nat}{A A2:Option Addr}{ch:Int}{v:Value}(hO2:Bd w3 b0 3 1 A2 (q+1) c2 (xs.map (Value.int .i64)++(#[.int .i64 ch]:Array Value).toList))
 (hb3:Aq w3 g1 25 #[v]) (hb4:Aq w3 g2 T #[.func (.func 77) #[] #[.pointer (some ⟨g2,0,none⟩),.pointer (some ⟨g1,0,none⟩)]])
 (hgr:w1.drew.grownBy w3 (Ak A n c).ownBlock) (hor:(Ak A2 (q+1) c2).ownBlock=(Ak A n c).ownBlock∨∃g,w1.drew.heap.size≤g∧(Ak A2 (q+1) c2).ownBlock=some g)
 (hq:xs.length=q) (hn1:(Ak A n c).ownBlock≠some g1) (hn2:(Ak A n c).ownBlock≠some g2) (hlb1:g1<w1.heap.size) (hlb2:g2<w1.heap.size) (hne:g1≠g2) (hbs:b0≤w1.heap.size):
 Hy (w3.setCell ⟨g1,0,none⟩ (.slice A2 (q+1) c2)) b0 g1 g2 T (xs++[ch]):=by
 have e1:(Ak A2 (q+1) c2).ownBlock≠some g1:=by
  rcases hor with h|⟨g,h,h'⟩
  ·rw[h];exact hn1
  ·exact I104
 have e2:(Ak A2 (q+1) c2).ownBlock≠some g2:=by
  rcases hor with h|⟨g,h,h'⟩
  ·rw[h];exact hn2
  ·exact I104
 refine Hy.of (by simp[hq]) (by simpa using hb3.set_ 0 (.slice A2 (q+1) c2)) (Aq.setNe hb4 (p:=⟨g1,0,none⟩) hne _) (by
  have:=Bd.setNe hO2 (p:=⟨g1,0,none⟩) e1 (.slice A2 (q+1) c2)
  simpa[Av]using this) e1 e2 (by
  have h1:=hgr.size;have h2:w1.drew.heap.size=w1.heap.size:=rfl;simp;omega)
def aB (t:Tr):Prop:=∀(w0:World) (a:Option Addr) (b0 g1 g2 T:Nat) (xs:List Int) (w:World),Bv w0 a t→An w0 w→w0.heap.size≤b0→w0.heap.size≤g1→g1≠g2→xs.length+t.sz≤8192→Hy w b0 g1 g2 T xs→
 Calls Tryz.prog 77 #[.pointer a,.pointer (some ⟨g2,0,none⟩),.pointer (some ⟨g1,0,none⟩)] w fun e w'=>e=.returned (.tuple #[])∧An w0 w'∧Hy w' b0 g1 g2 T (xs++t.toL)
theorem oP:aB .nil:=by
 intro w0 a b0 g1 g2 T xs w ht he hb hg hne hs hl;obtain rfl:=ht;have H:=A6 hl;clear hl;go_enter Tryz.func77,Tryz.ntmps77
 go_wp2_with fail
 go_end0
 exact⟨rfl,he,by simpa[Tr.toL]using H.out⟩
theorem jI {l r:Tr}{ch:Int}(IHl:Hid (aB l))(IHr:Hid (aB r)):aB (.node l ch r):=by
 intro w0 a b0 g1 g2 T xs w ht he hb hg hne hs hl;obtain⟨i0,hi,hz0,hz1,hz2⟩:=info_parts Cb;have hsz:xs.length+l.sz+1+r.sz≤8192:=by unfold Tr.sz at hs;omega
 clear hs;obtain⟨gn,la,ra,rfl,hB,htl,htr⟩:=ht;have hgn:=hB.lt;have n0:=hB.cell 0;have n1:=hB.cell 1;have n2:=hB.cell 2;simp only[Ah,Af,List.getElem?_cons_succ]at n0 n1 n2;have HN0:Hid (∀w1,An w0 w1→w1.cell? ⟨gn,0,none⟩=some (.pointer la)):=A6 fun w1 h1=>h1.cell n0
 have HN1:Hid (∀w1,An w0 w1→w1.cell? ⟨gn,1,none⟩=some (.pointer ra)):=A6 fun w1 h1=>h1.cell n1
 have HN2:Hid (∀w1,An w0 w1→w1.cell? ⟨gn,2,none⟩=some (.int .i64 ch)):=A6 fun w1 h1=>h1.cell n2
 have IL:Hid (∀w1,An w0 w1→Hy w1 b0 g1 g2 T xs→Calls Tryz.prog 77 #[.pointer la,.pointer (some ⟨g2,0,none⟩),.pointer (some ⟨g1,0,none⟩)] w1 fun e w'=>e=.returned (.tuple #[])∧An w0 w'∧Hy w' b0 g1 g2 T (xs++l.toL)):=
  A6 fun w1 h1 h2=>IHl.out w0 la b0 g1 g2 T xs w1 htl h1 hb hg hne (by omega) h2
 have IR:Hid (∀w1,An w0 w1→Hy w1 b0 g1 g2 T (xs++l.toL++[ch])→Calls Tryz.prog 77 #[.pointer ra,.pointer (some ⟨g2,0,none⟩),.pointer (some ⟨g1,0,none⟩)] w1 fun e w'=>e=.returned (.tuple #[])∧An w0 w'∧Hy w' b0 g1 g2 T (xs++l.toL++[ch]++r.toL)):=
  A6 fun w1 h1 h2=>IHr.out w0 ra b0 g1 g2 T _ w1 htr h1 hb hg hne (by rw[Ba,Ba,Tr.len];simp;omega) h2
 have HE:Hid (xs++(Tr.node l ch r).toL=xs++l.toL++[ch]++r.toL):=A6 (by rw[Tr.toL_node];simp)
 have hlen:(xs++l.toL).length≤8191:=by rw[Ba,Tr.len];omega
 clear IHl IHr n0 n1 n2 hB htl htr hsz;rw[HE.out];clear HE;have HD:=A6 (Hy.drew hl);have hwd:=he.to_drew;have k2:=hl.cells;have m0:=HN0.out w he;clear hl he;go_enter Tryz.func77,Tryz.ntmps77
 go_wp2_with fail
 go_region_held3 (fun w'=>w'.cell? ⟨g2,0,none⟩=some (.func (.func 77) #[] #[.pointer (some ⟨g2,0,none⟩),.pointer (some ⟨g1,0,none⟩)])∧w'.cell? ⟨gn,0,none⟩=some (.pointer la))
  (first|assumption|exact⟨k2,m0⟩|exact⟨hL1.cells,HN0.out _ hE1⟩)
  ((go_at_call 77;refine(IL.out _ hwd HD.out).mono ?_;rintro e w1 ⟨rfl,hE1,hL1⟩))
 clear k2 m0 HD hwd IL HN0;obtain⟨A,c,hb1,hb2,hown,hn1,hn2,hbs⟩:=hL1;generalize hys:xs++l.toL=ys at*;have HY:=A6 hys;clear hys;obtain⟨q,hq⟩:∃q,ys.length=q:=⟨_,rfl⟩;rw[hq]at hb1 hown hn1 hn2 hlen;have HQ:=A6 hq;clear hq;have k1:=hb1.cell 0;simp only[Ah,Af]at k1;have m2:=HN2.out w1 hE1;have a1:(w1.drew.alloc (.cells #[.int .i64 ch] 3)).cell? ⟨g1,0,none⟩=some (.slice A q c):=An.cell (An.alloc w1.drew _) k1;have a2:(w1.drew.alloc (.cells #[.int .i64 ch] 3)).cell? ⟨gn,2,none⟩=some (.int .i64 ch):=An.cell (An.alloc w1.drew _) m2;have hw2:=Bd.ext hown (An.drew w1);have hlb1:=hb1.lt;have hlb2:=hb2.lt;have hed:=hE1.to_drew;go_wp2_with fail
 go_region_law (first
  |(
   refine P7 rfl (.tmp 12) (.tmp 17) 25 rfl w0 b0 3 i0 _ 1 8 Tryz.underlying25 hi hz0 hz1 hz2 rfl (by decide) A _ c _ rfl hw2 #[.int .i64 ch] rfl J2n rfl (by unfold maxLen;omega) (by omega) hed hb hbs ?_
   intro A2 c2 w3 hO2 hgr hor hx3;have hb3:=Aq.grown (hb1.drewN 1) hgr (fun e=>hn1 e.symm)
   have hb4:=Aq.grown (hb2.drewN 1) hgr (fun e=>hn2 e.symm)
   have c0:=hb3.cell 0;have f0:=hb3.frozen 0;simp only[Ah,Af]at c0))
 all_goals
  have hS:=Hy.pushed hO2 hb3 hb4 hgr hor HQ.out hn1 hn2 hlb1 hlb2 hne hbs;have hE4:=An.setCell hx3 (p:=⟨g1,0,none⟩) hg (.slice A2 (q+1) c2);clear hO2 hb3 hb4 hgr hor hx3 c0 f0 k1 m2 a1 a2 hw2 hlb1 hlb2 hed hb1 hb2 hown hn1 hn2 hbs HN2
  revert hS hE4
  generalize w3.setCell ⟨g1,0,none⟩ (.slice A2 (q+1) c2)=w4;intro hS hE4;have HD:=A6 hS.drew;have hwd:=hE4.to_drew;have k2:=hS.cells;have m1:=HN1.out w4 hE4;clear hS;go_wp2_with fail
  go_region_held3 (fun w'=>w'.cell? ⟨g2,0,none⟩=some (.func (.func 77) #[] #[.pointer (some ⟨g2,0,none⟩),.pointer (some ⟨g1,0,none⟩)])∧w'.cell? ⟨gn,1,none⟩=some (.pointer ra))
   (first|assumption|exact⟨k2,m1⟩|exact⟨hL5.cells,HN1.out _ hE5⟩)
   ((go_at_call 77;refine(IR.out _ hwd HD.out).mono ?_;rintro e w5 ⟨rfl,hE5,hL5⟩))
  go_wp2_with fail
  go_end0
  exact⟨rfl,hE5,by rw[HY.out];exact hL5⟩
theorem Yv:∀t:Tr,aB t
 |.nil=>oP
 |.node l ch r=>jI (A6 (Yv l)) (A6 (Yv r))
theorem eV {w w1:World}{n:Nat}(c0:w1.cell? ⟨w.heap.size,0,none⟩=some (.pointer a))(he:An w w1)(hn:n≤100000):
 (((w1.alloc (.cells (madeCells #[.int .i64 0] n) 3)).alloc (.cells #[.slice (some ⟨w1.heap.size,0,none⟩) 0 n] 25)).alloc (.cells #[.func (.func 77) #[] #[.pointer (some ⟨w1.heap.size+1+1,0,none⟩),.pointer (some ⟨w1.heap.size+1,0,none⟩)]] 152)).cell? ⟨w1.heap.size+1+1,0,none⟩=some (.func (.func 77) #[] #[.pointer (some ⟨w1.heap.size+1+1,0,none⟩),.pointer (some ⟨w1.heap.size+1,0,none⟩)])∧
 (((w1.alloc (.cells (madeCells #[.int .i64 0] n) 3)).alloc (.cells #[.slice (some ⟨w1.heap.size,0,none⟩) 0 n] 25)).alloc (.cells #[.func (.func 77) #[] #[.pointer (some ⟨w1.heap.size+1+1,0,none⟩),.pointer (some ⟨w1.heap.size+1,0,none⟩)]] 152)).cell? ⟨w.heap.size,0,none⟩=some (.pointer a)∧
 Hy (((w1.alloc (.cells (madeCells #[.int .i64 0] n) 3)).alloc (.cells #[.slice (some ⟨w1.heap.size,0,none⟩) 0 n] 25)).alloc (.cells #[.func (.func 77) #[] #[.pointer (some ⟨w1.heap.size+1+1,0,none⟩),.pointer (some ⟨w1.heap.size+1,0,none⟩)]] 152)) w1.heap.size (w1.heap.size+1) (w1.heap.size+1+1) 152 []∧
 An w1 (((w1.alloc (.cells (madeCells #[.int .i64 0] n) 3)).alloc (.cells #[.slice (some ⟨w1.heap.size,0,none⟩) 0 n] 25)).alloc (.cells #[.func (.func 77) #[] #[.pointer (some ⟨w1.heap.size+1+1,0,none⟩),.pointer (some ⟨w1.heap.size+1,0,none⟩)]] 152)):=by
 have hown0:Bd (w1.alloc (.cells (madeCells #[.int .i64 0] n) 3)) w1.heap.size 3 1 (some ⟨w1.heap.size,0,none⟩) 0 n []:=
  World.ownsRow_made w1 _ _ (Aj _) (by unfold maxLen;omega) (by simp[size_madeCells])
 have e0:=An.alloc w1 (.cells (madeCells #[.int .i64 0] n) 3);have z0:(w1.alloc (.cells (madeCells #[.int .i64 0] n) 3)).heap.size=w1.heap.size+1:=by simp
 generalize w1.alloc (.cells (madeCells #[.int .i64 0] n) 3)=W1 at*;have b1:=Aq.new W1 25 #[.slice (some ⟨w1.heap.size,0,none⟩) 0 n];have hown1:=Bd.ext hown0 (An.alloc W1 (.cells #[.slice (some ⟨w1.heap.size,0,none⟩) 0 n] 25));have e1:=e0.trans (An.alloc W1 (.cells #[.slice (some ⟨w1.heap.size,0,none⟩) 0 n] 25));have z1:(W1.alloc (.cells #[.slice (some ⟨w1.heap.size,0,none⟩) 0 n] 25)).heap.size=w1.heap.size+1+1:=by simp[z0]
 rw[z0]at b1;generalize W1.alloc (.cells #[.slice (some ⟨w1.heap.size,0,none⟩) 0 n] 25)=W2 at*;have b2:=Aq.new W2 152 #[.func (.func 77) #[] #[.pointer (some ⟨w1.heap.size+1+1,0,none⟩),.pointer (some ⟨w1.heap.size+1,0,none⟩)]];have hown2:=Bd.ext hown1 (An.alloc W2 (.cells #[.func (.func 77) #[] #[.pointer (some ⟨w1.heap.size+1+1,0,none⟩),.pointer (some ⟨w1.heap.size+1,0,none⟩)]] 152));have e2:=e1.trans (An.alloc W2 (.cells #[.func (.func 77) #[] #[.pointer (some ⟨w1.heap.size+1+1,0,none⟩),.pointer (some ⟨w1.heap.size+1,0,none⟩)]] 152));have b1':=b1.ext (An.alloc W2 (.cells #[.func (.func 77) #[] #[.pointer (some ⟨w1.heap.size+1+1,0,none⟩),.pointer (some ⟨w1.heap.size+1,0,none⟩)]] 152));have z2:(W2.alloc (.cells #[.func (.func 77) #[] #[.pointer (some ⟨w1.heap.size+1+1,0,none⟩),.pointer (some ⟨w1.heap.size+1,0,none⟩)]] 152)).heap.size=w1.heap.size+1+1+1:=by simp[z1]
 rw[z1]at b2;generalize W2.alloc (.cells #[.func (.func 77) #[] #[.pointer (some ⟨w1.heap.size+1+1,0,none⟩),.pointer (some ⟨w1.heap.size+1,0,none⟩)]] 152)=W at*;have k3:=b2.cell 0;refine⟨by simpa using k3,e2.cell c0,Hy.of rfl b1' b2 hown2 ?_ ?_ ?_,e2⟩
 ·simp[Value.ownBlock]
 ·simp[Value.ownBlock];omega
 ·simp[z2];omega
theorem vF {t:Tr}(h:Bv w a t)(hz:t.sz≤8192):
 Calls Tryz.prog 53 #[.agg #[.pointer a]] w fun e w'=>∃A c,e=.returned (.slice A t.sz c)∧Av w' w.heap.size A t.sz c t.toL∧An w w':=by
 obtain⟨i0,hi,hz0,hz1,hz2⟩:=info_parts Cb;have hmk:∀u:World,(Instr.makeSlice 25 (.int .i64 0) (.int .i64 (t.sz:Int))).run Tryz.prog u=
  .ok (.slice (some ⟨u.heap.size,0,none⟩) 0 t.sz) (u.alloc (.cells (madeCells #[.int .i64 0] t.sz) 3)):=fun u=>by
  have h:=run_make (P:=Tryz.prog) u 25 3 i0 (.int .i64 0) Tryz.underlying25 hi hz0 .i64 .i64 0 (t.sz:Int) (by omega) (by omega) (by rw[hz2];omega) (by omega)
  simpa[hz1,Value.cells]using h
 have hx:=An.alloc w (.cells #[.pointer a] 90);have HLn:=A6 (Yr (Bv.ext hx h));have HT:=A6 h;clear hi h;go_enter Tryz.func53,Tryz.ntmps53
 go_wp2_with fail
 refine HLn.out.mono ?_
 rintro e w1 ⟨rfl,he1⟩;have he2:=hx.trans he1;have c0:w1.cell? ⟨w.heap.size,0,none⟩=some (.pointer a):=by
  exact he1.cell (by simp)
 obtain⟨k3,c4,hL,hE⟩:=eV c0 he2 (n:=t.sz) (by omega)
 have hs1:=he2.hsize;have HC:=A6 (Yv t _ a _ _ _ _ [] _ (Bv.ext he2 HT.out) hE (Aj _) (by omega) (by omega) (by simpa using hz) hL)
 clear hL hE;go_wp2_with fail
 refine HC.out.mono ?_
 rintro e w2 ⟨rfl,hE2,hL2⟩;obtain⟨A,c,hb1,hb2,hown,_⟩:=hL2;have k1:=hb1.cell 0;simp only[Ah,Af,List.nil_append,Tr.len]at k1;clear k3 c4 HC;have HW:Hid (Av w2 w.heap.size A t.sz c t.toL):=A6 (by have h:=Bd.lower hown hs1;simp only[List.nil_append,Tr.len]at h;exact h)
 clear hown hb1 hb2;have hE3:=he2.trans hE2;go_wp2_with fail
 go_ret
 exact⟨A,c,rfl,HW.out,hE3⟩
end
