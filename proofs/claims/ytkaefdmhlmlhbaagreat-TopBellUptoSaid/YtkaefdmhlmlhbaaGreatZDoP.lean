/-
  Part of the proof: ZDoP.
-/
import Derived.Test.YtkaefdmhlmlhbaaGreatZConc
import Derived.Test.YtkaefdmhlmlhbaaGreatZBtwM
import Derived.Test.YtkaefdmhlmlhbaaGreatZDoA
import Derived.IntWalk
set_option maxRecDepth 100000
set_option maxHeartbeats 16000000
set_option linter.unusedVariables false
set_option linter.unusedSimpArgs false
namespace Go.Proofs.YtkaefdmhlmlhbaaGreat
open Go.RowKit
open Act renaming put→An
open AllReadyH renaming cons→Ai,nil→Al
open _root_.List renaming getElem_cons_succ→Ab,getElem_cons_zero→Aa,getElem_toArray→Ac,setIfInBounds_toArray→A7,set_cons_succ→Ae,set_cons_zero→Ad
open _root_.Nat renaming le_refl→Aj
open Value renaming slice→Ak
open _root_.And renaming intro→Ba
theorem J9n {l m:List Int}{A B:Option Addr}{n c q d:Nat}{w:World}(hl:Bj w A n c l)(hm:Bj w B q d m)(hB:B=none→d=0)(hn:n≤4096)(hq:q≤4096):
 Calls Tryz.prog 149 #[.slice A n c,.slice B q d] w fun e' w'=>∃O k z e,e'=.returned (.tuple #[.slice O k z,.int .i64 0])∧Dz w' w.heap.size (.slice O k z) e∧(∃k j,btw l m k j∧((k=n∧k=q∧e=[])∨(¬(k=n∧k=q)∧e=[Pp l m k j])))∧Am w w':=
 (J1e hl hm hB hn hq).mono fun e' w' ⟨⟨k,j,h1,h2⟩,h3⟩=>by
  rcases h2 with⟨h4,h5,rfl⟩|⟨h4,g,rfl,h5⟩
  ·exact⟨none,0,0,[],rfl,Dz.nil _ _,⟨k,j,h1,.inl ⟨h4,h5,rfl⟩⟩,h3⟩
  ·exact⟨_,_,_,_,rfl,h5,⟨k,j,h1,.inr ⟨h4,rfl⟩⟩,h3⟩
def Fh (l m:List Int)(e:List Fw):Prop:=∃k j,btw l m k j∧((k=l.length∧k=m.length∧e=[])∨(¬(k=l.length∧k=m.length)∧e=[Pp l m k j]))
def So (w:World)(g:Nat)(cs:Array Value)(l m:List Int)(w':World):Prop:=
 w.grownBy w' (some g)∧∃B q b O k z e,Ap w' g 118 ((cs.setIfInBounds 66 (.slice O k z)).setIfInBounds 34 (.slice B q b))∧Ay w' w.heap.size B q b m∧Dz w' w.heap.size (.slice O k z) e∧Fh l m e∧∀g',(Ak B q b).ownBlock=some g'→Dz w' (g'+1) (.slice O k z) e
theorem Ub {w:World}{g n c f t m d:Nat}{cs:Array Value}{A T:Option Addr}{l x:List Int}{v34 v66:Value}(hb:Ap w g 118 cs)(h0:cs[0]? = some (.slice A n c))(h34:cs[34]? = some v34)(h66:cs[66]? = some v66)(hl:Bj w A n c l)(hx:Bj w T m d x)(hT:T=none→d=0)
 (hft:f≤t) (htn:t≤n) (hn:n≤200) (hm:m≤3000):
 Calls Tryz.prog 116 #[.pointer (some ⟨g,0,none⟩),.int .i64 (f:Int),.int .i64 (t:Int),.slice T m d] w fun e w'=>(∃u,e=.returned u)∧So w g cs l (l.take f++x++l.drop t) w':=by
 have hln:=hl.len;have hxl:=hx.len;have hnc:=hl.ncap;have hcm:=hl.nmax;unfold maxLen at hcm;obtain⟨T2,hT2⟩:∃T2,(if c=t then A else Option.map (fun x=>x.add t) A)=T2:=⟨_,rfl⟩
 have HC:Hid (Calls Tryz.prog 134 #[.slice (some ⟨w.heap.size,0,none⟩) 3 3] (w.drew.alloc (.cells #[.slice A f c,.slice T m d,.slice T2 (n-t) (c-t)] 25)) fun e w'=>∃B q b,e=.returned (.slice B q b)∧Ay w' w.heap.size B q b (l.take f++x++l.drop t)∧Am w w'):=A6 (by
  have he:Am w (w.drew.alloc (.cells #[.slice A f c,.slice T m d,.slice T2 (n-t) (c-t)] 25)):=(Am.drew w).to_alloc _;have hl':=hl.ext he;have hS:Rd (w.drew.alloc (.cells #[.slice A f c,.slice T m d,.slice T2 (n-t) (c-t)] 25)) 1 (some ⟨w.heap.size,0,none⟩) 3 3 [.slice A f c,.slice T m d,.slice T2 (n-t) (c-t)]:=Rd.litAtConc w.drew 25 _ rfl rfl (by omega)
  have h1:=Xe hS (Pg.three (hl'.front (k:=f) (by omega)) (hx.ext he) (by have h:=hl'.cut htn (Aj n);rw[hT2]at h;exact h)) rfl (by
   simp;omega)
  refine h1.mono fun e w' ⟨B,q,b,h2,h3,h4⟩=>⟨B,q,b,h2,?_,he.trans h4⟩
  have:(l.take f::x::[(l.drop t).take (n-t)]).flatten=l.take f++x++l.drop t:=by
   have hh:(l.drop t).take (n-t)=l.drop t:=List.take_of_length_le (by rw[List.length_drop,hln];exact Aj _)
   rw[hh];simp
  rw[←this];exact B8.lower h3 he.hsize)
 have x0:w.cell? ⟨g,0,none⟩=some (.slice A n c):=(hb.cell 0).trans h0;have hgw:=hb.lt;have HB:=A6 hb;have HL:=A6 hl;have H34:=A6 h34;have H66:=A6 h66;have HMl:Hid ((l.take f++x++l.drop t).length≤4096):=A6 (by simp;omega)
 have Hln:=A6 hln;have hfc:f≤c:=by omega
 have htc:t≤c:=by omega
 have hfn:f≤n:=by omega
 clear hb h0 h34 h66 hl hx hT hln hxl hm;go_enter Tryz.func116,Tryz.ntmps116
 go_upto_region 0 with fail
 refine wp_region_held_drew (S:=fun w'=>w'.cell? ⟨g,0,none⟩=some (.slice A n c)) (by kernel_rfl) x0 (fun hHeld=>?_)
 refine Fj (i:=0) (v:=(.pointer (some ⟨g,0,none⟩))) rfl (fun w hSw=>by have hSw:w.cell? ⟨g,0,none⟩=some (.slice A n c):=hSw;go_simp) hHeld ?_
 refine Fj (i:=1) (v:=(.pointer (some ⟨g,0,none⟩))) rfl (fun w hSw=>by have hSw:w.cell? ⟨g,0,none⟩=some (.slice A n c):=hSw;go_simp) hHeld ?_
 refine Fj (i:=2) (v:=(.pointer (some ⟨g,0,none⟩))) rfl (fun w hSw=>by have hSw:w.cell? ⟨g,0,none⟩=some (.slice A n c):=hSw;go_simp) hHeld ?_
 refine Fj (i:=3) (v:=(.pointer (some ⟨g,0,none⟩))) rfl (fun w hSw=>by have hSw:w.cell? ⟨g,0,none⟩=some (.slice A n c):=hSw;go_simp) hHeld ?_
 refine Fj (i:=4) (v:=(.slice A n c)) rfl (fun w hSw=>by have hSw:w.cell? ⟨g,0,none⟩=some (.slice A n c):=hSw;go_simp) hHeld ?_
 refine Fj (i:=5) (v:=(.int .i64 (f:Int))) rfl (fun w hSw=>by have hSw:w.cell? ⟨g,0,none⟩=some (.slice A n c):=hSw;go_simp) hHeld ?_
 refine Fj (i:=6) (v:=(.slice A f c)) rfl (fun w hSw=>by have hSw:w.cell? ⟨g,0,none⟩=some (.slice A n c):=hSw;go_simp) hHeld ?_
 refine Fj (i:=7) (v:=(.slice T m d)) rfl (fun w hSw=>by have hSw:w.cell? ⟨g,0,none⟩=some (.slice A n c):=hSw;go_simp) hHeld ?_
 refine Fj (i:=8) (v:=(.pointer (some ⟨g,0,none⟩))) rfl (fun w hSw=>by have hSw:w.cell? ⟨g,0,none⟩=some (.slice A n c):=hSw;go_simp) hHeld ?_
 refine Fj (i:=9) (v:=(.pointer (some ⟨g,0,none⟩))) rfl (fun w hSw=>by have hSw:w.cell? ⟨g,0,none⟩=some (.slice A n c):=hSw;go_simp) hHeld ?_
 refine Fj (i:=10) (v:=(.pointer (some ⟨g,0,none⟩))) rfl (fun w hSw=>by have hSw:w.cell? ⟨g,0,none⟩=some (.slice A n c):=hSw;go_simp) hHeld ?_
 refine Fj (i:=11) (v:=(.pointer (some ⟨g,0,none⟩))) rfl (fun w hSw=>by have hSw:w.cell? ⟨g,0,none⟩=some (.slice A n c):=hSw;go_simp) hHeld ?_
 refine Fj (i:=12) (v:=(.slice A n c)) rfl (fun w hSw=>by have hSw:w.cell? ⟨g,0,none⟩=some (.slice A n c):=hSw;go_simp) hHeld ?_
 refine Fj (i:=13) (v:=(.int .i64 (t:Int))) rfl (fun w hSw=>by have hSw:w.cell? ⟨g,0,none⟩=some (.slice A n c):=hSw;go_simp) hHeld ?_
 refine Fj (i:=14) (v:=(.slice T2 (n-t) (c-t))) rfl (fun w hSw=>by have hSw:w.cell? ⟨g,0,none⟩=some (.slice A n c):=hSw;go_simp) hHeld ?_
 refine wpAnyH_ready (rs:=[15]) (by kernel_rfl) (by simp) ?_
 refine Ai rfl (fun K hK=>?_) Al
 go_simp
 refine hK.out _ _ ((Am.alloc w.drew _).cell x0) (fun hHeld2=>?_)
 clear hK K hHeld
 try simp only[Ac,Aa,Ab,An,A7,Ad,Ae]
 refine wpAnyH_ready (rs:=[16]) (by kernel_rfl) (by simp) ?_
 refine Ai rfl (fun K hK=>?_) Al
 refine Bu rfl 134 #[.slice (some ⟨w.heap.size,0,none⟩) 3 3] rfl (by kernel_rfl) (fun v w'=>∃B q b,v=.slice B q b∧Ay w' w.heap.size B q b (l.take f++x++l.drop t)∧Am w w') (HC.out.mono fun e w' ⟨B,q,b,h1,h2,h3⟩=>⟨_,h1,B,q,b,rfl,h2,h3⟩) ?_
 rintro v w3 ⟨B,q,b,rfl,hO3,hx3⟩;refine hK.out _ _ (hx3.cell x0) (fun hHeld3=>?_)
 clear hK K hHeld2 hT2
 try simp only[Ac,Aa,Ab,An,A7,Ad,Ae]
 refine Fj (i:=17) (v:=(.slice B q b)) rfl (fun w hSw=>by have hSw:w.cell? ⟨g,0,none⟩=some (.slice A n c):=hSw;go_simp) hHeld3 ?_
 refine wpAnyH_done (by kernel_rfl) ?_ _
 obtain⟨M,hM⟩:∃M,l.take f++x++l.drop t=M:=⟨_,rfl⟩;rw[hM]at hO3 HMl;have HMm:=A6 hM;have hql:=hO3.ints.len;have HBe:=A6 (J9n (HL.out.ext hx3) hO3.ints (B8.nocap hO3) (by omega) (by have:=HMl.out;omega))
 have HO3:=A6 hO3;have HX3:=A6 hx3;have HQl:=A6 hql;clear hM hO3 hx3 hql HC x0;go_wp2_with fail
 refine HBe.out.mono ?_
 rintro e' w4 ⟨O,k,z,ed,rfl,hed,hmk,hx4⟩;have hb4:=(HB.out.ext HX3.out).ext hx4;have c66:w4.cell? ⟨g,66,none⟩=some v66:=(hb4.cell 66).trans H66.out;have f66:=hb4.frozen 66;have hb5:=hb4.set_ 66 (.slice O k z);have c34:(w4.setCell ⟨g,66,none⟩ (.slice O k z)).cell? ⟨g,34,none⟩=some v34:=by
  rw[hb5.cell 34,Array.getElem?_setIfInBounds_ne (by omega)];exact H34.out
 have f34:=hb5.frozen 34;have HB6:=A6 (hb5.set_ 34 (.slice B q b));have HED:=A6 ((Dz.lower hed HX3.out.hsize).kept (F6 w4 ⟨g,66,none⟩ (.slice O k z)) (fun k e=>by injection e with e;have e:g=k:=e;omega) |>.kept (F6 _ ⟨g,34,none⟩ (.slice B q b)) (fun k e=>by injection e with e;have e:g=k:=e;omega))
 have HOW:=A6 (B8.setCell (B8.setCell (B8.ext HO3.out hx4) (p:=⟨g,66,none⟩) hgw (.slice O k z)) (p:=⟨g,34,none⟩) hgw (.slice B q b));have HGR:=A6 (Cu (Cu (F8 (HX3.out.trans hx4) (some g)) (F6 w4 ⟨g,66,none⟩ (.slice O k z))) (F6 _ ⟨g,34,none⟩ (.slice B q b)));have HMK:Hid (Fh l M ed):=A6 (by
  obtain⟨k',j',h1,h2⟩:=hmk;refine⟨k',j',h1,?_⟩
  rw[Hln.out,HQl.out];exact h2)
 have HFr:Hid (∀g',(Ak B q b).ownBlock=some g'→Dz ((w4.setCell ⟨g,66,none⟩ (.slice O k z)).setCell ⟨g,34,none⟩ (.slice B q b)) (g'+1) (.slice O k z) ed):=A6 (fun g' hg'=>by
  obtain⟨h1,h2⟩:=B8.blk HO3.out g' hg';exact((Dz.lower hed h2).kept (F6 w4 ⟨g,66,none⟩ (.slice O k z)) (fun k e=>by injection e with e;have e:g=k:=e;omega)).kept (F6 _ ⟨g,34,none⟩ (.slice B q b)) (fun k e=>by injection e with e;have e:g=k:=e;omega))
 clear hed hmk hx4 hb4 hb5 HBe HB HL;go_wp2_with fail
 go_end0
 exact⟨⟨_,rfl⟩,HGR.out,B,q,b,O,k,z,ed,HB6.out,HMm.out▸HOW.out,HED.out,HMm.out▸HMK.out,HFr.out⟩
theorem Hn {P:Program}{o:Oper}{a:Act}{w:World}(hgd:o.guard=none)(ty:TypeId)(x:Operand)(ho:o.op=.load ty x)(g off:Nat)(hx:a.eval x=.pointer (some ⟨g,off,none⟩))(t:TypeId)(cs vs:Array Value)(fr:Nat×Nat)(d:TypeDesc)(hg:w.heap[g]? = some (.cells cs t fr))(hv:∀j v,vs[j]? = some v→cs[off+j]? = some v)
 (hu:P.underlying ty=some d) (hd:(match d with|.struct _|.array _ _=>true|_=>false)=true) (hi:(P.info? ty).map (·.size)=some vs.size):(execOp a.eval o).run P w=.ok (.value (.agg vs)) w:=by
 unfold execOp;simp only[ho,hx,Instr.loadAt,Instr.sureAddr,Sem.run_bind,Sem.run_pure,Result.andThen_ok,J5 w g off t ty cs vs fr d hg hv hu hd hi]
theorem Px {cs vs:Array Value}(h:vs.size=cs.size):M0 cs 0 vs=vs:=by
 unfold M0;rw[List.drop_of_length_le (by simp;omega)]
 simp
def Tv (rl:Nat→List Int)(k:Int)(text:List Int)(x:Int)(rs':Nat→List Int):Prop:=
 (x≠0∧¬ ∃i m,Fm k=some (i,m)∧¬Gl rl i m text)∨(x=0∧∃i m,Fm k=some (i,m)∧¬Gl rl i m text∧rs'=Ki rl i m text)
theorem Q6a {w:World}{cs:Array Value}{rl:Nat→List Int}{k:Int}{A:Option Addr}{n c:Nat}{text:List Int}(hr:Kl w cs rl)(ht:Bj w A n c text)(hA:A=none→c=0):
 Calls Tryz.prog 148 #[.agg cs,.int .i64 k,.slice A n c] w fun e w'=>∃ds x rs',e=.returned (.tuple #[.agg ds,.int .i64 x])∧Eg w' w.heap.size ds rs'∧Tv rl k text x rs'∧Am w w':=by
 cases h:Fm k with
 |none=>exact(Q5z h).mono fun e w' ⟨h1,h2⟩=>⟨Bz,9,_,h1,Ut _ _,.inl ⟨by decide,fun⟨i,m,h9,_⟩=>by rw[h]at h9;cases h9⟩,h2⟩
 |some p=>
  obtain⟨i,m⟩:=p;by_cases hb:Gl rl i m text
  ·exact(J7m hr ht h hb).mono fun e w' ⟨h1,h2⟩=>⟨Bz,2,_,h1,Ut _ _,.inl ⟨by decide,fun⟨i',m',h9,h8⟩=>by rw[h]at h9;injection h9 with h9;injection h9 with h9 h7;subst h9;subst h7;exact h8 hb⟩,h2⟩
  ·exact(Z0c hr ht hA h hb).mono fun e w' ⟨ds,h1,h2,h3⟩=>⟨ds,0,_,h1,h2.1,.inr ⟨rfl,i,m,h,hb,rfl⟩,h3⟩
def Z2d (w:World)(g:Nat)(cs:Array Value)(rl:Nat→List Int)(k:Int)(text:List Int)(e:Ending)(w':World):Prop:=
 ∃x,e=.returned (.int .i64 x)∧w.grownBy w' (some g)∧((∃i m,Fm k=some (i,m)∧¬Gl rl i m text)→x=0)∧(x=0→∃ds rs',Ap w' g 118 (M0 cs 36 ds)∧Eg w' w.heap.size ds rs'∧∃i m,Fm k=some (i,m)∧¬Gl rl i m text∧rs'=Ki rl i m text)
theorem Q7c {w:World}{g n c f t:Nat}{cs rs:Array Value}{A:Option Addr}{l:List Int}{rl:Nat→List Int}{k2:Int}(hb:Ap w g 118 cs)(hz:cs.size=67)(h0:cs[0]? = some (.slice A n c))(h30:cs[30]? = some (.int .i64 k2))(hrs:∀j,j<27→cs[2+j]? = rs[j]?)(hr:Kl w rs rl)(hl:Bj w A n c l)(hA:A=none→c=0)(hft:f≤t)(htn:t≤n)(hn:n≤200):
 Calls Tryz.prog 115 #[.pointer (some ⟨g,0,none⟩),.int .i64 (f:Int),.int .i64 (t:Int)] w (Z2d w g cs rl k2 ((l.drop f).take (t-f))):=by
 have hnc:=hl.ncap;have hcm:=hl.nmax;unfold maxLen at hcm;have x0:w.cell? ⟨g,0,none⟩=some (.slice A n c):=(hb.cell 0).trans h0;have x30:w.cell? ⟨g,30,none⟩=some (.int .i64 k2):=(hb.cell 30).trans h30;have hgw:=hb.lt;have HB:=A6 hb;have HZ:=A6 hz;have HRs:=A6 hr.1;have HRv:Hid (∀j v,rs[j]? = some v→cs[2+j]? = some v):=A6 (fun j v hj=>by
  have hlt:=(Array.getElem?_eq_some_iff.1 hj).1;rw[hr.1]at hlt;rw[hrs j hlt];exact hj)
 obtain⟨T2,hT2⟩:∃T2,(if c=f then A else Option.map (fun x=>x.add f) A)=T2:=⟨_,rfl⟩
 have HP:Hid (∀wx,Am w wx→Calls Tryz.prog 148 #[.agg rs,.int .i64 k2,.slice T2 (t-f) (c-f)] wx fun e w'=>∃ds x rs',e=.returned (.tuple #[.agg ds,.int .i64 x])∧Eg w' wx.heap.size ds rs'∧Tv rl k2 ((l.drop f).take (t-f)) x rs'∧Am wx w'):=A6 fun wx he=>by
  have h:=(hl.ext he).cut hft htn;rw[hT2]at h;refine Q6a (hr.ext he) h (fun e=>?_)
  rw[←hT2]at e;by_cases hcf:c=f
  ·omega
  ·rw[if_neg hcf]at e
   cases A with
   |none=>have:=hA rfl;omega
   |some a=>cases e
 have hfc:f≤c:=by omega
 have htc:t≤c:=by omega
 have hfn:f≤n:=by omega
 clear hb hz h0 h30 hrs hr hl hA;go_enter Tryz.func115,Tryz.ntmps115
 go_upto_region 1 with fail
 go_cut [7,8] (fun v7 v8 wx=>∃p ds x rs',v7=.pointer (some ⟨p,0,none⟩)∧v8=.int .i64 x∧w.heap.size≤p∧Hid (Ap wx p 38 ds)∧Hid (Eg wx w.heap.size ds rs')∧Hid (Tv rl k2 ((l.drop f).take (t-f)) x rs')∧Hid (Am w wx))
 case first=>
  refine wp_region_held_drew (S:=fun w'=>w'.cell? ⟨g,0,none⟩=some (.slice A n c)∧w'.cell? ⟨g,30,none⟩=some (.int .i64 k2)∧Ap w' g 118 cs) (by kernel_rfl) ⟨x0,x30,HB.out⟩ (fun hHeld=>?_)
  refine Bq (i:=0) (v:=(.pointer (some ⟨g,0,none⟩))) rfl hHeld ?_
  refine Bq (i:=1) (v:=(.pointer (some ⟨g,0,none⟩))) rfl hHeld ?_
  refine Bq (i:=2) (v:=(.pointer (some ⟨g,2,none⟩))) rfl hHeld ?_
  refine Fj (i:=3) (v:=(.agg rs)) rfl (fun w hSw=>by exact Hn rfl 38 (.tmp 12) rfl g 2 rfl 118 cs rs (0,0) _ hSw.2.2 HRv.out Tryz.underlying38 rfl (Cz HRs.out)) hHeld ?_
  refine Bq (i:=4) (v:=(.pointer (some ⟨g,0,none⟩))) rfl hHeld ?_
  refine Bq (i:=5) (v:=(.pointer (some ⟨g,0,none⟩))) rfl hHeld ?_
  refine Bq (i:=6) (v:=(.pointer (some ⟨g,29,none⟩))) rfl hHeld ?_
  refine Bq (i:=7) (v:=(.pointer (some ⟨g,30,none⟩))) rfl hHeld ?_
  refine Bq (i:=8) (v:=(.int .i64 k2)) rfl hHeld ?_
  refine Bq (i:=9) (v:=(.pointer (some ⟨g,0,none⟩))) rfl hHeld ?_
  refine Bq (i:=10) (v:=(.pointer (some ⟨g,0,none⟩))) rfl hHeld ?_
  refine Bq (i:=11) (v:=(.pointer (some ⟨g,0,none⟩))) rfl hHeld ?_
  refine Bq (i:=12) (v:=(.pointer (some ⟨g,0,none⟩))) rfl hHeld ?_
  refine Bq (i:=13) (v:=(.slice A n c)) rfl hHeld ?_
  refine Bq (i:=14) (v:=(.int .i64 (f:Int))) rfl hHeld ?_
  refine Bq (i:=15) (v:=(.int .i64 (t:Int))) rfl hHeld ?_
  refine Bq (i:=16) (v:=(.slice T2 (t-f) (c-f))) rfl hHeld ?_
  refine wpAnyH_ready (rs:=[17,21]) (by kernel_rfl) (by simp) ?_
  refine Ai rfl (fun K hK=>?_) (Ai rfl (fun K hK=>?_) Al)
  ·refine Bu rfl 148 #[.agg rs,.int .i64 k2,.slice T2 (t-f) (c-f)] rfl (by kernel_rfl) (fun v w'=>∃ds x rs',v=.tuple #[.agg ds,.int .i64 x]∧Eg w' w.drew.heap.size ds rs'∧Tv rl k2 (l.drop f |>.take (t-f)) x rs'∧Am w.drew w') ((HP.out _ (Am.drew w)).mono fun e w' ⟨ds,x,rs',h1,h2,h3,h4⟩=>⟨_,h1,ds,x,rs',rfl,h2,h3,h4⟩) ?_
   rintro v w3 ⟨ds,x,rs',rfl,hR3,hP3,hx3⟩;have hb3:=(HB.out.ext (Am.drew w)).ext hx3;refine hK.out _ _ ⟨hx3.cell x0,hx3.cell x30,hb3⟩ (fun hHeld2=>?_)
   clear hK K hHeld
   try simp only[Ac,Aa,Ab,An,A7,Ad,Ae]
   refine Bq (i:=18) (v:=(.tuple #[.agg ds,.int .i64 x])) rfl hHeld2 ?_
   refine Bq (i:=19) (v:=(.agg ds)) rfl hHeld2 ?_
   refine Bq (i:=20) (v:=(.int .i64 x)) rfl hHeld2 ?_
   refine wpAnyH_ready (rs:=[21]) (by kernel_rfl) (by simp) ?_
   refine Ai rfl (fun K hK=>?_) Al
   go_simp
   have hxa:=Am.alloc w3 (.cells #[.slice none 0 0,.slice none 0 0,.slice none 0 0,.slice none 0 0,.slice none 0 0,.slice none 0 0,.slice none 0 0,.slice none 0 0,.slice none 0 0,.slice none 0 0,.slice none 0 0,.slice none 0 0,.slice none 0 0,.slice none 0 0,.slice none 0 0,.slice none 0 0,.slice none 0 0,.slice none 0 0,.slice none 0 0,.slice none 0 0,.slice none 0 0,.slice none 0 0,.slice none 0 0,.slice none 0 0,.slice none 0 0,.slice none 0 0,.slice none 0 0] 38);refine hK.out _ _ ⟨hxa.cell (hx3.cell x0),hxa.cell (hx3.cell x30),hb3.ext hxa⟩ (fun hHeld3=>?_)
   clear hK K hHeld2
   try simp only[Ac,Aa,Ab,An,A7,Ad,Ae]
   refine wpAnyH_ready (rs:=[22]) (by kernel_rfl) (by simp) ?_
   refine Ai rfl (fun K hK=>?_) Al
   refine By rfl 38 (.tmp 7) (.tmp 28) rfl w3.heap.size 0 ds rfl rfl 38 #[.slice none 0 0,.slice none 0 0,.slice none 0 0,.slice none 0 0,.slice none 0 0,.slice none 0 0,.slice none 0 0,.slice none 0 0,.slice none 0 0,.slice none 0 0,.slice none 0 0,.slice none 0 0,.slice none 0 0,.slice none 0 0,.slice none 0 0,.slice none 0 0,.slice none 0 0,.slice none 0 0,.slice none 0 0,.slice none 0 0,.slice none 0 0,.slice none 0 0,.slice none 0 0,.slice none 0 0,.slice none 0 0,.slice none 0 0,.slice none 0 0] (Ap.new w3 _ _) (Cz hR3.1) (by rw[hR3.1];exact Aj 27) hR3.regs.one ?_
   have hxf:Am w3 ((w3.alloc (.cells #[.slice none 0 0,.slice none 0 0,.slice none 0 0,.slice none 0 0,.slice none 0 0,.slice none 0 0,.slice none 0 0,.slice none 0 0,.slice none 0 0,.slice none 0 0,.slice none 0 0,.slice none 0 0,.slice none 0 0,.slice none 0 0,.slice none 0 0,.slice none 0 0,.slice none 0 0,.slice none 0 0,.slice none 0 0,.slice none 0 0,.slice none 0 0,.slice none 0 0,.slice none 0 0,.slice none 0 0,.slice none 0 0,.slice none 0 0,.slice none 0 0] 38)).setRow w3.heap.size (M0 #[.slice none 0 0,.slice none 0 0,.slice none 0 0,.slice none 0 0,.slice none 0 0,.slice none 0 0,.slice none 0 0,.slice none 0 0,.slice none 0 0,.slice none 0 0,.slice none 0 0,.slice none 0 0,.slice none 0 0,.slice none 0 0,.slice none 0 0,.slice none 0 0,.slice none 0 0,.slice none 0 0,.slice none 0 0,.slice none 0 0,.slice none 0 0,.slice none 0 0,.slice none 0 0,.slice none 0 0,.slice none 0 0,.slice none 0 0,.slice none 0 0] 0 ds)):=Am.setRow (Am.alloc w3 _) (Aj _) _;have hbf:Ap ((w3.alloc (.cells #[.slice none 0 0,.slice none 0 0,.slice none 0 0,.slice none 0 0,.slice none 0 0,.slice none 0 0,.slice none 0 0,.slice none 0 0,.slice none 0 0,.slice none 0 0,.slice none 0 0,.slice none 0 0,.slice none 0 0,.slice none 0 0,.slice none 0 0,.slice none 0 0,.slice none 0 0,.slice none 0 0,.slice none 0 0,.slice none 0 0,.slice none 0 0,.slice none 0 0,.slice none 0 0,.slice none 0 0,.slice none 0 0,.slice none 0 0,.slice none 0 0] 38)).setRow w3.heap.size (M0 #[.slice none 0 0,.slice none 0 0,.slice none 0 0,.slice none 0 0,.slice none 0 0,.slice none 0 0,.slice none 0 0,.slice none 0 0,.slice none 0 0,.slice none 0 0,.slice none 0 0,.slice none 0 0,.slice none 0 0,.slice none 0 0,.slice none 0 0,.slice none 0 0,.slice none 0 0,.slice none 0 0,.slice none 0 0,.slice none 0 0,.slice none 0 0,.slice none 0 0,.slice none 0 0,.slice none 0 0,.slice none 0 0,.slice none 0 0,.slice none 0 0] 0 ds)) w3.heap.size 38 (M0 #[.slice none 0 0,.slice none 0 0,.slice none 0 0,.slice none 0 0,.slice none 0 0,.slice none 0 0,.slice none 0 0,.slice none 0 0,.slice none 0 0,.slice none 0 0,.slice none 0 0,.slice none 0 0,.slice none 0 0,.slice none 0 0,.slice none 0 0,.slice none 0 0,.slice none 0 0,.slice none 0 0,.slice none 0 0,.slice none 0 0,.slice none 0 0,.slice none 0 0,.slice none 0 0,.slice none 0 0,.slice none 0 0,.slice none 0 0,.slice none 0 0] 0 ds):=Ap.setRow (Ap.new w3 38 #[.slice none 0 0,.slice none 0 0,.slice none 0 0,.slice none 0 0,.slice none 0 0,.slice none 0 0,.slice none 0 0,.slice none 0 0,.slice none 0 0,.slice none 0 0,.slice none 0 0,.slice none 0 0,.slice none 0 0,.slice none 0 0,.slice none 0 0,.slice none 0 0,.slice none 0 0,.slice none 0 0,.slice none 0 0,.slice none 0 0,.slice none 0 0,.slice none 0 0,.slice none 0 0,.slice none 0 0,.slice none 0 0,.slice none 0 0,.slice none 0 0]) _;rw[Px (by rw[hR3.1];rfl)]at hxf hbf ⊢
   have HF:=A6 (Ba hbf (Ba (hR3.ext hxf) (((Am.drew w).trans hx3).trans hxf)));have hlt:w.heap.size≤w3.heap.size:=hx3.hsize;refine hK.out _ _ ⟨hxf.cell (hx3.cell x0),hxf.cell (hx3.cell x30),hb3.ext hxf⟩ (fun hHeld4=>?_)
   clear hK K hHeld3
   try simp only[Ac,Aa,Ab,An,A7,Ad,Ae]
   refine Bq (i:=23) (v:=(.int .i64 x)) rfl hHeld4 ?_
   refine wpAnyH_done (by kernel_rfl) ?_ _
   try go_wp2_with fail
   go_meet
   exact⟨w3.heap.size,ds,x,rs',rfl,rfl,hlt,A6 HF.out.1,A6 (Eg.lower HF.out.2.1 (show w.heap.size≤w.drew.heap.size from Aj _)),A6 hP3,A6 HF.out.2.2⟩
  ·go_simp
   have hxa:Am w (w.drew.alloc (.cells #[.slice none 0 0,.slice none 0 0,.slice none 0 0,.slice none 0 0,.slice none 0 0,.slice none 0 0,.slice none 0 0,.slice none 0 0,.slice none 0 0,.slice none 0 0,.slice none 0 0,.slice none 0 0,.slice none 0 0,.slice none 0 0,.slice none 0 0,.slice none 0 0,.slice none 0 0,.slice none 0 0,.slice none 0 0,.slice none 0 0,.slice none 0 0,.slice none 0 0,.slice none 0 0,.slice none 0 0,.slice none 0 0,.slice none 0 0,.slice none 0 0] 38)):=(Am.drew w).to_alloc _;have hba:Ap (w.drew.alloc (.cells #[.slice none 0 0,.slice none 0 0,.slice none 0 0,.slice none 0 0,.slice none 0 0,.slice none 0 0,.slice none 0 0,.slice none 0 0,.slice none 0 0,.slice none 0 0,.slice none 0 0,.slice none 0 0,.slice none 0 0,.slice none 0 0,.slice none 0 0,.slice none 0 0,.slice none 0 0,.slice none 0 0,.slice none 0 0,.slice none 0 0,.slice none 0 0,.slice none 0 0,.slice none 0 0,.slice none 0 0,.slice none 0 0,.slice none 0 0,.slice none 0 0] 38)) w.heap.size 38 #[.slice none 0 0,.slice none 0 0,.slice none 0 0,.slice none 0 0,.slice none 0 0,.slice none 0 0,.slice none 0 0,.slice none 0 0,.slice none 0 0,.slice none 0 0,.slice none 0 0,.slice none 0 0,.slice none 0 0,.slice none 0 0,.slice none 0 0,.slice none 0 0,.slice none 0 0,.slice none 0 0,.slice none 0 0,.slice none 0 0,.slice none 0 0,.slice none 0 0,.slice none 0 0,.slice none 0 0,.slice none 0 0,.slice none 0 0,.slice none 0 0]:=Ap.new w.drew _ _
   skip
   refine hK.out _ _ ⟨hxa.cell x0,hxa.cell x30,HB.out.ext hxa⟩ (fun hHeld2=>?_)
   clear hK K hHeld
   try simp only[Ac,Aa,Ab,An,A7,Ad,Ae]
   refine wpAnyH_ready (rs:=[17]) (by kernel_rfl) (by simp) ?_
   refine Ai rfl (fun K hK=>?_) Al
   refine Bu rfl 148 #[.agg rs,.int .i64 k2,.slice T2 (t-f) (c-f)] rfl (by kernel_rfl) (fun v w'=>∃ds x rs',v=.tuple #[.agg ds,.int .i64 x]∧Eg w' (w.drew.alloc (.cells #[.slice none 0 0,.slice none 0 0,.slice none 0 0,.slice none 0 0,.slice none 0 0,.slice none 0 0,.slice none 0 0,.slice none 0 0,.slice none 0 0,.slice none 0 0,.slice none 0 0,.slice none 0 0,.slice none 0 0,.slice none 0 0,.slice none 0 0,.slice none 0 0,.slice none 0 0,.slice none 0 0,.slice none 0 0,.slice none 0 0,.slice none 0 0,.slice none 0 0,.slice none 0 0,.slice none 0 0,.slice none 0 0,.slice none 0 0,.slice none 0 0] 38)).heap.size ds rs'∧Tv rl k2 (l.drop f |>.take (t-f)) x rs'∧Am (w.drew.alloc (.cells #[.slice none 0 0,.slice none 0 0,.slice none 0 0,.slice none 0 0,.slice none 0 0,.slice none 0 0,.slice none 0 0,.slice none 0 0,.slice none 0 0,.slice none 0 0,.slice none 0 0,.slice none 0 0,.slice none 0 0,.slice none 0 0,.slice none 0 0,.slice none 0 0,.slice none 0 0,.slice none 0 0,.slice none 0 0,.slice none 0 0,.slice none 0 0,.slice none 0 0,.slice none 0 0,.slice none 0 0,.slice none 0 0,.slice none 0 0,.slice none 0 0] 38)) w') ((HP.out _ hxa).mono fun e w' ⟨ds,x,rs',h1,h2,h3,h4⟩=>⟨_,h1,ds,x,rs',rfl,h2,h3,h4⟩) ?_
   rintro v w3 ⟨ds,x,rs',rfl,hR3,hP3,hx3⟩;have hb3:=(HB.out.ext hxa).ext hx3;have hc3:=hba.ext hx3;refine hK.out _ _ ⟨hx3.cell (hxa.cell x0),hx3.cell (hxa.cell x30),hb3⟩ (fun hHeld3=>?_)
   clear hK K hHeld2
   try simp only[Ac,Aa,Ab,An,A7,Ad,Ae]
   refine Bq (i:=18) (v:=(.tuple #[.agg ds,.int .i64 x])) rfl hHeld3 ?_
   refine Bq (i:=19) (v:=(.agg ds)) rfl hHeld3 ?_
   refine Bq (i:=20) (v:=(.int .i64 x)) rfl hHeld3 ?_
   refine wpAnyH_ready (rs:=[22]) (by kernel_rfl) (by simp) ?_
   refine Ai rfl (fun K hK=>?_) Al
   refine By rfl 38 (.tmp 7) (.tmp 28) rfl w.heap.size 0 ds rfl rfl 38 #[.slice none 0 0,.slice none 0 0,.slice none 0 0,.slice none 0 0,.slice none 0 0,.slice none 0 0,.slice none 0 0,.slice none 0 0,.slice none 0 0,.slice none 0 0,.slice none 0 0,.slice none 0 0,.slice none 0 0,.slice none 0 0,.slice none 0 0,.slice none 0 0,.slice none 0 0,.slice none 0 0,.slice none 0 0,.slice none 0 0,.slice none 0 0,.slice none 0 0,.slice none 0 0,.slice none 0 0,.slice none 0 0,.slice none 0 0,.slice none 0 0] hc3 (Cz hR3.1) (by rw[hR3.1];exact Aj 27) hR3.regs.one ?_
   have hxf:Am w (w3.setRow w.heap.size (M0 #[.slice none 0 0,.slice none 0 0,.slice none 0 0,.slice none 0 0,.slice none 0 0,.slice none 0 0,.slice none 0 0,.slice none 0 0,.slice none 0 0,.slice none 0 0,.slice none 0 0,.slice none 0 0,.slice none 0 0,.slice none 0 0,.slice none 0 0,.slice none 0 0,.slice none 0 0,.slice none 0 0,.slice none 0 0,.slice none 0 0,.slice none 0 0,.slice none 0 0,.slice none 0 0,.slice none 0 0,.slice none 0 0,.slice none 0 0,.slice none 0 0] 0 ds)):=Am.setRow (hxa.trans hx3) (Aj _) _;have hbf:Ap (w3.setRow w.heap.size (M0 #[.slice none 0 0,.slice none 0 0,.slice none 0 0,.slice none 0 0,.slice none 0 0,.slice none 0 0,.slice none 0 0,.slice none 0 0,.slice none 0 0,.slice none 0 0,.slice none 0 0,.slice none 0 0,.slice none 0 0,.slice none 0 0,.slice none 0 0,.slice none 0 0,.slice none 0 0,.slice none 0 0,.slice none 0 0,.slice none 0 0,.slice none 0 0,.slice none 0 0,.slice none 0 0,.slice none 0 0,.slice none 0 0,.slice none 0 0,.slice none 0 0] 0 ds)) w.heap.size 38 (M0 #[.slice none 0 0,.slice none 0 0,.slice none 0 0,.slice none 0 0,.slice none 0 0,.slice none 0 0,.slice none 0 0,.slice none 0 0,.slice none 0 0,.slice none 0 0,.slice none 0 0,.slice none 0 0,.slice none 0 0,.slice none 0 0,.slice none 0 0,.slice none 0 0,.slice none 0 0,.slice none 0 0,.slice none 0 0,.slice none 0 0,.slice none 0 0,.slice none 0 0,.slice none 0 0,.slice none 0 0,.slice none 0 0,.slice none 0 0,.slice none 0 0] 0 ds):=Ap.setRow hc3 _;have hsz:w.heap.size<(w.drew.alloc (.cells #[.slice none 0 0,.slice none 0 0,.slice none 0 0,.slice none 0 0,.slice none 0 0,.slice none 0 0,.slice none 0 0,.slice none 0 0,.slice none 0 0,.slice none 0 0,.slice none 0 0,.slice none 0 0,.slice none 0 0,.slice none 0 0,.slice none 0 0,.slice none 0 0,.slice none 0 0,.slice none 0 0,.slice none 0 0,.slice none 0 0,.slice none 0 0,.slice none 0 0,.slice none 0 0,.slice none 0 0,.slice none 0 0,.slice none 0 0,.slice none 0 0] 38)).heap.size:=hba.lt;have hrf:=hR3.setRow (g:=w.heap.size) hsz (M0 #[.slice none 0 0,.slice none 0 0,.slice none 0 0,.slice none 0 0,.slice none 0 0,.slice none 0 0,.slice none 0 0,.slice none 0 0,.slice none 0 0,.slice none 0 0,.slice none 0 0,.slice none 0 0,.slice none 0 0,.slice none 0 0,.slice none 0 0,.slice none 0 0,.slice none 0 0,.slice none 0 0,.slice none 0 0,.slice none 0 0,.slice none 0 0,.slice none 0 0,.slice none 0 0,.slice none 0 0,.slice none 0 0,.slice none 0 0,.slice none 0 0] 0 ds);have hdf:Ap (w3.setRow w.heap.size (M0 #[.slice none 0 0,.slice none 0 0,.slice none 0 0,.slice none 0 0,.slice none 0 0,.slice none 0 0,.slice none 0 0,.slice none 0 0,.slice none 0 0,.slice none 0 0,.slice none 0 0,.slice none 0 0,.slice none 0 0,.slice none 0 0,.slice none 0 0,.slice none 0 0,.slice none 0 0,.slice none 0 0,.slice none 0 0,.slice none 0 0,.slice none 0 0,.slice none 0 0,.slice none 0 0,.slice none 0 0,.slice none 0 0,.slice none 0 0,.slice none 0 0] 0 ds)) g 118 cs:=HB.out.ext hxf;rw[Px (by rw[hR3.1];rfl)]at hxf hbf hrf hdf ⊢
   have HF:=A6 (Ba hbf (Ba hrf hxf));refine hK.out _ _ ⟨hxf.cell x0,hxf.cell x30,hdf⟩ (fun hHeld4=>?_)
   clear hK K hHeld3
   try simp only[Ac,Aa,Ab,An,A7,Ad,Ae]
   refine Bq (i:=23) (v:=(.int .i64 x)) rfl hHeld4 ?_
   refine wpAnyH_done (by kernel_rfl) ?_ _
   try go_wp2_with fail
   go_meet
   exact⟨w.heap.size,ds,x,rs',rfl,rfl,Aj _,A6 HF.out.1,A6 (Eg.lower HF.out.2.1 (Nat.le_of_lt hsz)),A6 hP3,A6 HF.out.2.2⟩
 case rest=>
  obtain⟨p,ds,x,rs',rfl,rfl,hp,HBp,HRO,HPR,HXc⟩:=hcut;have HBg:=A6 (HB.out.ext HXc.out);have hxg:=A6 (F8 HXc.out (some g));clear x0 x30 hT2 HP HB;by_cases hx0:x=0
  ·subst hx0
   have T4:Hid (∃i m,Fm k2=some (i,m)∧¬Gl rl i m ((l.drop f).take (t-f))∧rs'=Ki rl i m ((l.drop f).take (t-f))):=A6 (by
    rcases HPR.out with h|⟨_,h⟩
    ·exact absurd rfl h.1
    ·exact h)
   have hds:=A6 HRO.out.1;have hone:=A6 HRO.out.regs.one;go_wp2_with (first
    |(refine wpList_load_row rfl 38 (.tmp 7) rfl p rfl 38 ds (0,0) _ HBp.out Tryz.underlying38 rfl (Cz hds.out) ?_)
    |(refine Jv rfl 38 (.tmp 36) (.tmp 33) rfl g 36 ds rfl rfl 118 cs HBg.out (Cz hds.out) (by rw[hds.out,HZ.out];decide) hone.out ?_))
   go_ret
   exact⟨0,rfl,Cu hxg.out (Ev _ _ _),fun _=>rfl,fun _=>⟨ds,rs',Ap.setRow HBg.out _,Eg.setRow HRO.out hgw _,T4.out⟩⟩
  ·go_wp2_with fail
   go_ret
   exact⟨x,rfl,hxg.out,fun h=>by rcases HPR.out with h9|h9;exact absurd h h9.2;exact h9.1,fun h=>absurd h hx0⟩
def Mi (x:Int):Int:=if 97≤x∧x≤122 then x-32 else if 65≤x∧x≤90 then x+32 else x
theorem Q4w:∀n:Fin 26,bits .xor .i64 (97+(n.val:Int)) 32=65+(n.val:Int):=by decide +kernel
theorem Q8i:∀n:Fin 26,bits .xor .i64 (65+(n.val:Int)) 32=97+(n.val:Int):=by decide +kernel
theorem Q1h {x:Int}(h1:97≤x)(h2:x≤122):bits .xor .i64 x 32=Mi x:=by
 have h:=Q4w ⟨(x-97).toNat,by omega⟩
 rw[show(97:Int)+(((⟨(x-97).toNat,by omega⟩:Fin 26).val:Nat):Int)=x by simp;omega]at h
 rw[h];unfold Mi;rw[if_pos ⟨h1,h2⟩];simp;omega
theorem Q5p {x:Int}(h1:65≤x)(h2:x≤90):bits .xor .i64 x 32=Mi x:=by
 have h:=Q8i ⟨(x-65).toNat,by omega⟩
 rw[show(65:Int)+(((⟨(x-65).toNat,by omega⟩:Fin 26).val:Nat):Int)=x by simp;omega]at h
 rw[h];unfold Mi;rw[if_neg (by omega),if_pos ⟨h1,h2⟩]
 simp;omega
theorem J6m (x:Int)(w:World):Calls Tryz.prog 112 #[.int .i64 x] w fun e w'=>e=.returned (.int .i64 (Mi x))∧w=w':=by
 go_enter Tryz.func112,Tryz.ntmps112
 go_wp2_with fail
 all_goals
  go_ret
  refine⟨?_,rfl⟩
  first
   |(rw[Q1h (by assumption) (by assumption)];rfl)
   |(rw[Q5p (by assumption) (by assumption)];rfl)
   |(unfold Mi;rw[if_neg (by omega),if_neg (by omega)];rfl)
def Qb (l:List Int)(a k:Nat):List Int:=l.take a++((l.drop a).take k).map Mi++l.drop (a+k)
theorem J9d {w:World}{g n c a k:Nat}{cs:Array Value}{A:Option Addr}{l:List Int}{v34 v66:Value}(hb:Ap w g 118 cs)(h0:cs[0]? = some (.slice A n c))(h1:cs[1]? = some (.int .i64 (a:Int)))(h34:cs[34]? = some v34)(h66:cs[66]? = some v66)(hl:Bj w A n c l)(hn:n≤200)(hak:a+k≤n):
 Calls Tryz.prog 111 #[.pointer (some ⟨g,0,none⟩),.int .i64 (k:Int),.func (.func 112) #[] #[]] w fun e w'=>(∃u,e=.returned u)∧So w g cs l (Qb l a k) w':=by
 have N0:=trivial;exact K23
theorem Ui (x y:Int)(w:World)(hx : -1000000≤x∧x≤1000000)(hy:0≤y∧y≤1000000):Calls Tryz.prog 113 #[.int .i64 x,.int .i64 y] w fun e w'=>e=.returned (.int .i64 (max 0 (min x (y-1))))∧w=w':=by
 have hwr:IntKind.i64.wrap (y-1)=y-1:=IntWalk.i64_in _ (by omega)
 go_enter Tryz.func113,Tryz.ntmps113
 go_wp2_with fail
 all_goals
  go_ret
  refine⟨?_,rfl⟩
  show Ending.returned (Value.int .i64 _)=_
  first
   |(congr 2;omega)
   |(congr 2)
theorem Nh.one {w:World}{g:Nat}{cs:Array Value}{A:Option Addr}{n c:Nat}{a:Int}{rs:Array Value}{rl:Nat→List Int}{k1 k2 k3 k4 k5 fk fa:Int}{B:Option Addr}{d:Nat}(h:Nh w g cs A n c a rs rl k1 k2 k3 k4 k5 fk fa B d):∀k v,34≤k→cs[k]? = some v→v.oneCell'=true:=by
 intro k v hk hv;have hlt:k<67:=by
  exact I108
 by_cases h1:k=34
 ·subst h1;rw[h.out]at hv;injection hv with hv;subst hv;rfl
 ·by_cases h2:k=35
  ·subst h2;rw[h.oat]at hv;injection hv with hv;subst hv;rfl
  ·by_cases h3:k<63
   ·obtain⟨u,hu,C,m,e,rfl,_⟩:=h.oregs (k-36) (by omega)
    exact I94
   ·have h4:k=63∨k=64∨k=65∨k=66:=by omega
    rcases h4 with rfl|rfl|rfl|rfl
    ·rw[h.c63]at hv;injection hv with hv;subst hv;rfl
    ·rw[h.c64]at hv;injection hv with hv;subst hv;rfl
    ·rw[h.c65]at hv;injection hv with hv;subst hv;rfl
    ·rw[h.c66]at hv;injection hv with hv;subst hv;rfl
theorem J9e {l:List Int}{a k:Nat}(h:a+k≤l.length):(Qb l a k).length=l.length:=by
 unfold Qb;simp;omega
