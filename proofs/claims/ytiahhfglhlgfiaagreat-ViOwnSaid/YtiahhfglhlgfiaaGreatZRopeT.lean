/-
  Part ZRopeT.
-/
import Derived.Test.YtiahhfglhlgfiaaGreatZRopeW
import Derived.Deep.RegionLaw
import Derived.Laws.EntriesVeiled
set_option maxRecDepth 100000
set_option maxHeartbeats 16000000
set_option linter.unusedVariables false
set_option linter.unusedSimpArgs false
namespace Go.Proofs.YtiahhfglhlgfiaaGreat
open Go.RowKit
open _root_.List renaming getElem?_cons_zero→Ae,getElem?_toArray→Ag,length_append→Bl
open _root_.Nat renaming le_refl→Ai
open Value renaming slice→Aj
section
variable {xs:List Int}{w:World}{b0 g1 g2 T:Nat}{A a:Option Addr}
theorem Sh (w:World)(p:Addr)(u:Value):w.grownBy (w.setCell p u) (some p.block):=
 ⟨rfl,rfl,rfl,by simp,fun k hk hne=>by
  unfold World.setCell;split<;>(simp only[Array.getElem?_modify];rw[if_neg (fun e=>hne (by rw[e]))])⟩
theorem Ay.setNe {base e z n c:Nat}{xs:List Value}(h:Ay w base e z A n c xs){p:Addr}(hne:(Aj A n c).ownBlock≠some p.block)(u:Value):Ay (w.setCell p u) base e z A n c xs:=
 Ay.kept h (Sh w p u) (.inr hne)
theorem yO {k:Int}:∀u∈(#[.int .i64 k]:Array Value).toList,u.oneCell'=true:=by
 intro u hu;simp at hu;subst hu
 rfl
def Gw (w:World)(b0 g1 g2 T:Nat)(xs:List Int):Prop:=
 ∃A c,An w g1 27 #[.slice A xs.length c]∧An w g2 T #[.func (.func 64) #[] #[.pointer (some ⟨g2,0,none⟩),.pointer (some ⟨g1,0,none⟩)]]∧Av w b0 A xs.length c xs∧
  (Aj A xs.length c).ownBlock≠some g1∧(Aj A xs.length c).ownBlock≠some g2∧b0≤w.heap.size
theorem Gw.cells (h:Gw w b0 g1 g2 T xs):w.cell? ⟨g2,0,none⟩=some (.func (.func 64) #[] #[.pointer (some ⟨g2,0,none⟩),.pointer (some ⟨g1,0,none⟩)]):=by
 obtain⟨A,c,h1,h2,h3⟩:=h;have:=h2.cell 0
 simpa using this
theorem Gw.drew (h:Gw w b0 g1 g2 T xs):Gw w.drew b0 g1 g2 T xs:=by
 obtain⟨A,c,h1,h2,h3,h4⟩:=h;exact⟨A,c,h1,h2,Av.ext h3 (Al.drew w),h4⟩
theorem Gw.of {b0 g1 g2 T q c:Nat}(hq:xs.length=q)(h1:An w g1 27 #[.slice A q c])
 (h2:An w g2 T #[.func (.func 64) #[] #[.pointer (some ⟨g2,0,none⟩),.pointer (some ⟨g1,0,none⟩)]]) (h3:Av w b0 A q c xs) (h4:(Aj A q c).ownBlock≠some g1) (h5:(Aj A q c).ownBlock≠some g2) (h6:b0≤w.heap.size):Gw w b0 g1 g2 T xs:=by
 subst hq;exact⟨A,c,h1,h2,h3,h4,h5,h6⟩
theorem Gw.pushed {w1 w3:World}{b0 g1 g2 T n q c c2:Nat}{A A2:Option Addr}{ch:Int}{v:Value}(hO2:Ay w3 b0 3 1 A2 (q+1) c2 (xs.map (Value.int .i64)++(#[.int .i64 ch]:Array Value).toList))
 (hb3:An w3 g1 27 #[v]) (hb4:An w3 g2 T #[.func (.func 64) #[] #[.pointer (some ⟨g2,0,none⟩),.pointer (some ⟨g1,0,none⟩)]])
 (hgr:w1.drew.grownBy w3 (Aj A n c).ownBlock) (hor:(Aj A2 (q+1) c2).ownBlock=(Aj A n c).ownBlock∨∃g,w1.drew.heap.size≤g∧(Aj A2 (q+1) c2).ownBlock=some g)
 (hq:xs.length=q) (hn1:(Aj A n c).ownBlock≠some g1) (hn2:(Aj A n c).ownBlock≠some g2) (hlb1:g1<w1.heap.size) (hlb2:g2<w1.heap.size) (hne:g1≠g2) (hbs:b0≤w1.heap.size):
 Gw (w3.setCell ⟨g1,0,none⟩ (.slice A2 (q+1) c2)) b0 g1 g2 T (xs++[ch]):=by
 have e1:(Aj A2 (q+1) c2).ownBlock≠some g1:=by
  rcases hor with h|⟨g,h,h'⟩
  ·rw[h];exact hn1
  ·exact I101
 have e2:(Aj A2 (q+1) c2).ownBlock≠some g2:=by
  rcases hor with h|⟨g,h,h'⟩
  ·rw[h];exact hn2
  ·exact I101
 refine Gw.of (by simp[hq]) (by simpa using hb3.set_ 0 (.slice A2 (q+1) c2)) (An.setNe hb4 (p:=⟨g1,0,none⟩) hne _) (by
  have:=Ay.setNe hO2 (p:=⟨g1,0,none⟩) e1 (.slice A2 (q+1) c2)
  simpa[Av]using this) e1 e2 (by
  have h1:=hgr.size;have h2:w1.drew.heap.size=w1.heap.size:=rfl;simp;omega)
def Ym (t:Tr):Prop:=∀(w0:World) (a:Option Addr) (b0 g1 g2 T:Nat) (xs:List Int) (w:World),Bp w0 a t→Al w0 w→w0.heap.size≤b0→w0.heap.size≤g1→g1≠g2→xs.length+t.sz≤8192→Gw w b0 g1 g2 T xs→
 Calls Tryz.prog 64 #[.pointer a,.pointer (some ⟨g2,0,none⟩),.pointer (some ⟨g1,0,none⟩)] w fun e w'=>e=.returned (.tuple #[])∧Al w0 w'∧Gw w' b0 g1 g2 T (xs++t.toL)
theorem lM:Ym .nil:=by
 intro w0 a b0 g1 g2 T xs w ht he hb hg hne hs hl;obtain rfl:=ht;have H:=A4 hl;clear hl;go_enter Tryz.func64,Tryz.ntmps64
 go_wp2_with fail
 go_end0
 exact⟨rfl,he,by simpa[Tr.toL]using H.out⟩
theorem fQ {l r:Tr}{ch:Int}(IHl:Hid (Ym l))(IHr:Hid (Ym r)):Ym (.node l ch r):=by
 intro w0 a b0 g1 g2 T xs w ht he hb hg hne hs hl;obtain⟨i0,hi,hz0,hz1,hz2⟩:=info_parts Bz;have hsz:xs.length+l.sz+1+r.sz≤8192:=by unfold Tr.sz at hs;omega
 clear hs;obtain⟨gn,la,ra,rfl,hB,htl,htr⟩:=ht;have hgn:=hB.lt;have n0:=hB.cell 0;have n1:=hB.cell 1;have n2:=hB.cell 2;simp only[Ag,Ae,List.getElem?_cons_succ]at n0 n1 n2;have HN0:Hid (∀w1,Al w0 w1→w1.cell? ⟨gn,0,none⟩=some (.pointer la)):=A4 fun w1 h1=>h1.cell n0
 have HN1:Hid (∀w1,Al w0 w1→w1.cell? ⟨gn,1,none⟩=some (.pointer ra)):=A4 fun w1 h1=>h1.cell n1
 have HN2:Hid (∀w1,Al w0 w1→w1.cell? ⟨gn,2,none⟩=some (.int .i64 ch)):=A4 fun w1 h1=>h1.cell n2
 have IL:Hid (∀w1,Al w0 w1→Gw w1 b0 g1 g2 T xs→Calls Tryz.prog 64 #[.pointer la,.pointer (some ⟨g2,0,none⟩),.pointer (some ⟨g1,0,none⟩)] w1 fun e w'=>e=.returned (.tuple #[])∧Al w0 w'∧Gw w' b0 g1 g2 T (xs++l.toL)):=
  A4 fun w1 h1 h2=>IHl.out w0 la b0 g1 g2 T xs w1 htl h1 hb hg hne (by omega) h2
 have IR:Hid (∀w1,Al w0 w1→Gw w1 b0 g1 g2 T (xs++l.toL++[ch])→Calls Tryz.prog 64 #[.pointer ra,.pointer (some ⟨g2,0,none⟩),.pointer (some ⟨g1,0,none⟩)] w1 fun e w'=>e=.returned (.tuple #[])∧Al w0 w'∧Gw w' b0 g1 g2 T (xs++l.toL++[ch]++r.toL)):=
  A4 fun w1 h1 h2=>IHr.out w0 ra b0 g1 g2 T _ w1 htr h1 hb hg hne (by rw[Bl,Bl,Tr.len];simp;omega) h2
 have HE:Hid (xs++(Tr.node l ch r).toL=xs++l.toL++[ch]++r.toL):=A4 (by rw[Tr.toL_node];simp)
 have hlen:(xs++l.toL).length≤8191:=by rw[Bl,Tr.len];omega
 clear IHl IHr n0 n1 n2 hB htl htr hsz;rw[HE.out];clear HE;have HD:=A4 (Gw.drew hl);have hwd:=he.to_drew;have k2:=hl.cells;have m0:=HN0.out w he;clear hl he;go_enter Tryz.func64,Tryz.ntmps64
 go_wp2_with fail
 go_region_held3 (fun w'=>w'.cell? ⟨g2,0,none⟩=some (.func (.func 64) #[] #[.pointer (some ⟨g2,0,none⟩),.pointer (some ⟨g1,0,none⟩)])∧w'.cell? ⟨gn,0,none⟩=some (.pointer la))
  (first|assumption|exact⟨k2,m0⟩|exact⟨hL1.cells,HN0.out _ hE1⟩)
  ((go_at_call 64;refine(IL.out _ hwd HD.out).mono ?_;rintro e w1 ⟨rfl,hE1,hL1⟩))
 clear k2 m0 HD hwd IL HN0;obtain⟨A,c,hb1,hb2,hown,hn1,hn2,hbs⟩:=hL1;generalize hys:xs++l.toL=ys at*;have HY:=A4 hys;clear hys;obtain⟨q,hq⟩:∃q,ys.length=q:=⟨_,rfl⟩;rw[hq]at hb1 hown hn1 hn2 hlen;have HQ:=A4 hq;clear hq;have k1:=hb1.cell 0;simp only[Ag,Ae]at k1;have m2:=HN2.out w1 hE1;have a1:(w1.drew.alloc (.cells #[.int .i64 ch] 3)).cell? ⟨g1,0,none⟩=some (.slice A q c):=Al.cell (Al.alloc w1.drew _) k1;have a2:(w1.drew.alloc (.cells #[.int .i64 ch] 3)).cell? ⟨gn,2,none⟩=some (.int .i64 ch):=Al.cell (Al.alloc w1.drew _) m2;have hw2:=Ay.ext hown (Al.drew w1);have hlb1:=hb1.lt;have hlb2:=hb2.lt;have hed:=hE1.to_drew;go_wp2_with fail
 go_region_law (first
  |(
   refine Mn rfl (.tmp 12) (.tmp 17) 27 rfl w0 b0 3 i0 _ 1 8 Tryz.underlying27 hi hz0 hz1 hz2 rfl (by decide) A _ c _ rfl hw2 #[.int .i64 ch] rfl yO rfl (by unfold maxLen;omega) (by omega) hed hb hbs ?_
   intro A2 c2 w3 hO2 hgr hor hx3;have hb3:=An.grown (hb1.drewN 1) hgr (fun e=>hn1 e.symm)
   have hb4:=An.grown (hb2.drewN 1) hgr (fun e=>hn2 e.symm)
   have c0:=hb3.cell 0;have f0:=hb3.frozen 0;simp only[Ag,Ae]at c0))
 all_goals
  have hS:=Gw.pushed hO2 hb3 hb4 hgr hor HQ.out hn1 hn2 hlb1 hlb2 hne hbs;have hE4:=Al.setCell hx3 (p:=⟨g1,0,none⟩) hg (.slice A2 (q+1) c2);clear hO2 hb3 hb4 hgr hor hx3 c0 f0 k1 m2 a1 a2 hw2 hlb1 hlb2 hed hb1 hb2 hown hn1 hn2 hbs HN2
  revert hS hE4
  generalize w3.setCell ⟨g1,0,none⟩ (.slice A2 (q+1) c2)=w4;intro hS hE4;have HD:=A4 hS.drew;have hwd:=hE4.to_drew;have k2:=hS.cells;have m1:=HN1.out w4 hE4;clear hS;go_wp2_with fail
  go_region_held3 (fun w'=>w'.cell? ⟨g2,0,none⟩=some (.func (.func 64) #[] #[.pointer (some ⟨g2,0,none⟩),.pointer (some ⟨g1,0,none⟩)])∧w'.cell? ⟨gn,1,none⟩=some (.pointer ra))
   (first|assumption|exact⟨k2,m1⟩|exact⟨hL5.cells,HN1.out _ hE5⟩)
   ((go_at_call 64;refine(IR.out _ hwd HD.out).mono ?_;rintro e w5 ⟨rfl,hE5,hL5⟩))
  go_wp2_with fail
  go_end0
  exact⟨rfl,hE5,by rw[HY.out];exact hL5⟩
theorem Xh:∀t:Tr,Ym t
 |.nil=>lM
 |.node l ch r=>fQ (A4 (Xh l)) (A4 (Xh r))
theorem cR {w w1:World}{n:Nat}(c0:w1.cell? ⟨w.heap.size,0,none⟩=some (.pointer a))(he:Al w w1)(hn:n≤100000):
 (((w1.alloc (.cells (madeCells #[.int .i64 0] n) 3)).alloc (.cells #[.slice (some ⟨w1.heap.size,0,none⟩) 0 n] 27)).alloc (.cells #[.func (.func 64) #[] #[.pointer (some ⟨w1.heap.size+1+1,0,none⟩),.pointer (some ⟨w1.heap.size+1,0,none⟩)]] 123)).cell? ⟨w1.heap.size+1+1,0,none⟩=some (.func (.func 64) #[] #[.pointer (some ⟨w1.heap.size+1+1,0,none⟩),.pointer (some ⟨w1.heap.size+1,0,none⟩)])∧
 (((w1.alloc (.cells (madeCells #[.int .i64 0] n) 3)).alloc (.cells #[.slice (some ⟨w1.heap.size,0,none⟩) 0 n] 27)).alloc (.cells #[.func (.func 64) #[] #[.pointer (some ⟨w1.heap.size+1+1,0,none⟩),.pointer (some ⟨w1.heap.size+1,0,none⟩)]] 123)).cell? ⟨w.heap.size,0,none⟩=some (.pointer a)∧
 Gw (((w1.alloc (.cells (madeCells #[.int .i64 0] n) 3)).alloc (.cells #[.slice (some ⟨w1.heap.size,0,none⟩) 0 n] 27)).alloc (.cells #[.func (.func 64) #[] #[.pointer (some ⟨w1.heap.size+1+1,0,none⟩),.pointer (some ⟨w1.heap.size+1,0,none⟩)]] 123)) w1.heap.size (w1.heap.size+1) (w1.heap.size+1+1) 123 []∧
 Al w1 (((w1.alloc (.cells (madeCells #[.int .i64 0] n) 3)).alloc (.cells #[.slice (some ⟨w1.heap.size,0,none⟩) 0 n] 27)).alloc (.cells #[.func (.func 64) #[] #[.pointer (some ⟨w1.heap.size+1+1,0,none⟩),.pointer (some ⟨w1.heap.size+1,0,none⟩)]] 123)):=by
 have hown0:Ay (w1.alloc (.cells (madeCells #[.int .i64 0] n) 3)) w1.heap.size 3 1 (some ⟨w1.heap.size,0,none⟩) 0 n []:=
  World.ownsRow_made w1 _ _ (Ai _) (by unfold maxLen;omega) (by simp[size_madeCells])
 have e0:=Al.alloc w1 (.cells (madeCells #[.int .i64 0] n) 3);have z0:(w1.alloc (.cells (madeCells #[.int .i64 0] n) 3)).heap.size=w1.heap.size+1:=by simp
 generalize w1.alloc (.cells (madeCells #[.int .i64 0] n) 3)=W1 at*;have b1:=An.new W1 27 #[.slice (some ⟨w1.heap.size,0,none⟩) 0 n];have hown1:=Ay.ext hown0 (Al.alloc W1 (.cells #[.slice (some ⟨w1.heap.size,0,none⟩) 0 n] 27));have e1:=e0.trans (Al.alloc W1 (.cells #[.slice (some ⟨w1.heap.size,0,none⟩) 0 n] 27));have z1:(W1.alloc (.cells #[.slice (some ⟨w1.heap.size,0,none⟩) 0 n] 27)).heap.size=w1.heap.size+1+1:=by simp[z0]
 rw[z0]at b1;generalize W1.alloc (.cells #[.slice (some ⟨w1.heap.size,0,none⟩) 0 n] 27)=W2 at*;have b2:=An.new W2 123 #[.func (.func 64) #[] #[.pointer (some ⟨w1.heap.size+1+1,0,none⟩),.pointer (some ⟨w1.heap.size+1,0,none⟩)]];have hown2:=Ay.ext hown1 (Al.alloc W2 (.cells #[.func (.func 64) #[] #[.pointer (some ⟨w1.heap.size+1+1,0,none⟩),.pointer (some ⟨w1.heap.size+1,0,none⟩)]] 123));have e2:=e1.trans (Al.alloc W2 (.cells #[.func (.func 64) #[] #[.pointer (some ⟨w1.heap.size+1+1,0,none⟩),.pointer (some ⟨w1.heap.size+1,0,none⟩)]] 123));have b1':=b1.ext (Al.alloc W2 (.cells #[.func (.func 64) #[] #[.pointer (some ⟨w1.heap.size+1+1,0,none⟩),.pointer (some ⟨w1.heap.size+1,0,none⟩)]] 123));have z2:(W2.alloc (.cells #[.func (.func 64) #[] #[.pointer (some ⟨w1.heap.size+1+1,0,none⟩),.pointer (some ⟨w1.heap.size+1,0,none⟩)]] 123)).heap.size=w1.heap.size+1+1+1:=by simp[z1]
 rw[z1]at b2;generalize W2.alloc (.cells #[.func (.func 64) #[] #[.pointer (some ⟨w1.heap.size+1+1,0,none⟩),.pointer (some ⟨w1.heap.size+1,0,none⟩)]] 123)=W at*;have k3:=b2.cell 0;refine⟨by simpa using k3,e2.cell c0,Gw.of rfl b1' b2 hown2 ?_ ?_ ?_,e2⟩
 ·simp[Value.ownBlock]
 ·simp[Value.ownBlock];omega
 ·simp[z2];omega
theorem rI {t:Tr}(h:Bp w a t)(hz:t.sz≤8192):
 Calls Tryz.prog 37 #[.agg #[.pointer a]] w fun e w'=>∃A c,e=.returned (.slice A t.sz c)∧Av w' w.heap.size A t.sz c t.toL∧Al w w':=by
 obtain⟨i0,hi,hz0,hz1,hz2⟩:=info_parts Bz;have hmk:∀u:World,(Instr.makeSlice 27 (.int .i64 0) (.int .i64 (t.sz:Int))).run Tryz.prog u=
  .ok (.slice (some ⟨u.heap.size,0,none⟩) 0 t.sz) (u.alloc (.cells (madeCells #[.int .i64 0] t.sz) 3)):=fun u=>by
  have h:=run_make (P:=Tryz.prog) u 27 3 i0 (.int .i64 0) Tryz.underlying27 hi hz0 .i64 .i64 0 (t.sz:Int) (by omega) (by omega) (by rw[hz2];omega) (by omega)
  simpa[hz1,Value.cells]using h
 have hx:=Al.alloc w (.cells #[.pointer a] 57);have HLn:=A4 (Xd (Bp.ext hx h));have HT:=A4 h;clear hi h;go_enter Tryz.func37,Tryz.ntmps37
 go_wp2_with fail
 refine HLn.out.mono ?_
 rintro e w1 ⟨rfl,he1⟩;have he2:=hx.trans he1;have c0:w1.cell? ⟨w.heap.size,0,none⟩=some (.pointer a):=by
  exact he1.cell (by simp)
 obtain⟨k3,c4,hL,hE⟩:=cR c0 he2 (n:=t.sz) (by omega)
 have hs1:=he2.hsize;have HC:=A4 (Xh t _ a _ _ _ _ [] _ (Bp.ext he2 HT.out) hE (Ai _) (by omega) (by omega) (by simpa using hz) hL)
 clear hL hE;go_wp2_with fail
 refine HC.out.mono ?_
 rintro e w2 ⟨rfl,hE2,hL2⟩;obtain⟨A,c,hb1,hb2,hown,_⟩:=hL2;have k1:=hb1.cell 0;simp only[Ag,Ae,List.nil_append,Tr.len]at k1;clear k3 c4 HC;have HW:Hid (Av w2 w.heap.size A t.sz c t.toL):=A4 (by have h:=Ay.lower hown hs1;simp only[List.nil_append,Tr.len]at h;exact h)
 clear hown hb1 hb2;have hE3:=he2.trans hE2;go_wp2_with fail
 go_ret
 exact⟨A,c,rfl,HW.out,hE3⟩
end
