/-
  Part ZDoP.
-/
import Derived.Test.YtiahhfglhlgfiaaGreatZConc
import Derived.Test.YtiahhfglhlgfiaaGreatZBtwM
import Derived.Test.YtiahhfglhlgfiaaGreatZDoA
import Derived.IntWalk
set_option maxRecDepth 100000
set_option maxHeartbeats 16000000
set_option linter.unusedVariables false
set_option linter.unusedSimpArgs false
namespace Go.Proofs.YtiahhfglhlgfiaaGreat
open Go.RowKit
open Act renaming put→Am
open AllReadyH renaming cons→Ah,nil→Ak
open _root_.List renaming getElem_cons_succ→Aa,getElem_cons_zero→A7,getElem_toArray→Ab,setIfInBounds_toArray→A6,set_cons_succ→Ad,set_cons_zero→Ac
open _root_.Nat renaming le_refl→Ai,lt_succ_self→Bx
open Value renaming slice→Aj
open _root_.And renaming intro→Be
open Region renaming wanted→Bm
section
variable {A T:Option Addr}{w:World}{cs rs:Array Value}{rl:Nat→List Int}{k1 k2 k3 k4 k5 fk fa:Int}{l:List Int}{v34 v66:Value}{n c g f t:Nat}{P:Program}
theorem jV {l m:List Int}{A B:Option Addr}{n c q d:Nat}(hl:Bi w A n c l)(hm:Bi w B q d m)(hB:B=none→d=0)(hn:n≤4096)(hq:q≤4096):
 Calls Tryz.prog 146 #[.slice A n c,.slice B q d] w fun e' w'=>∃O k z e,e'=.returned (.tuple #[.slice O k z,.int .i64 0])∧Dq w' w.heap.size (.slice O k z) e∧(∃k j,pJ l m k j∧((k=n∧k=q∧e=[])∨(¬(k=n∧k=q)∧e=[Pk l m k j])))∧Al w w':=
 (aF hl hm hB hn hq).mono fun e' w' ⟨⟨k,j,h1,h2⟩,h3⟩=>by
  rcases h2 with⟨h4,h5,rfl⟩|⟨h4,g,rfl,h5⟩
  ·exact⟨none,0,0,[],rfl,Dq.nil _ _,⟨k,j,h1,.inl ⟨h4,h5,rfl⟩⟩,h3⟩
  ·exact⟨_,_,_,_,rfl,h5,⟨k,j,h1,.inr ⟨h4,rfl⟩⟩,h3⟩
def F3 (l m:List Int)(e:List Fh):Prop:=∃k j,pJ l m k j∧((k=l.length∧k=m.length∧e=[])∨(¬(k=l.length∧k=m.length)∧e=[Pk l m k j]))
def Rv (w:World)(g:Nat)(cs:Array Value)(l m:List Int)(w':World):Prop:=
 w.grownBy w' (some g)∧∃B q b O k z e,An w' g 185 ((cs.setIfInBounds 66 (.slice O k z)).setIfInBounds 34 (.slice B q b))∧Av w' w.heap.size B q b m∧Dq w' w.heap.size (.slice O k z) e∧F3 l m e∧∀g',(Aj B q b).ownBlock=some g'→Dq w' (g'+1) (.slice O k z) e
theorem Tu {g n c f t m d:Nat}{l x:List Int}(hb:An w g 185 cs)(h0:cs[0]? = some (.slice A n c))(h34:cs[34]? = some v34)(h66:cs[66]? = some v66)(hl:Bi w A n c l)(hx:Bi w T m d x)(hT:T=none→d=0)
 (hft:f≤t) (htn:t≤n) (hn:n≤200) (hm:m≤3000):
 Calls Tryz.prog 136 #[.pointer (some ⟨g,0,none⟩),.int .i64 (f:Int),.int .i64 (t:Int),.slice T m d] w fun e w'=>(∃u,e=.returned u)∧Rv w g cs l (l.take f++x++l.drop t) w':=by
 have hln:=hl.len;have hxl:=hx.len;have hnc:=hl.ncap;have hcm:=hl.nmax;unfold maxLen at hcm;obtain⟨T2,hT2⟩:∃T2,(if c=t then A else Option.map (fun x=>x.add t) A)=T2:=⟨_,rfl⟩
 have HC:Hid (Calls Tryz.prog 87 #[.slice (some ⟨w.heap.size,0,none⟩) 3 3] (w.drew.alloc (.cells #[.slice A f c,.slice T m d,.slice T2 (n-t) (c-t)] 27)) fun e w'=>∃B q b,e=.returned (.slice B q b)∧Av w' w.heap.size B q b (l.take f++x++l.drop t)∧Al w w'):=A4 (by
  have he:Al w (w.drew.alloc (.cells #[.slice A f c,.slice T m d,.slice T2 (n-t) (c-t)] 27)):=(Al.drew w).to_alloc _;have hl':=hl.ext he;have hS:Rd (w.drew.alloc (.cells #[.slice A f c,.slice T m d,.slice T2 (n-t) (c-t)] 27)) 1 (some ⟨w.heap.size,0,none⟩) 3 3 [.slice A f c,.slice T m d,.slice T2 (n-t) (c-t)]:=Rd.litAtConc w.drew 27 _ rfl rfl (by omega)
  have h1:=Wl hS (Np.three (hl'.front (k:=f) (by omega)) (hx.ext he) (by have h:=hl'.cut htn (Ai n);rw[hT2]at h;exact h)) rfl (by
   simp;omega)
  refine h1.mono fun e w' ⟨B,q,b,h2,h3,h4⟩=>⟨B,q,b,h2,?_,he.trans h4⟩
  have:(l.take f::x::[(l.drop t).take (n-t)]).flatten=l.take f++x++l.drop t:=by
   have hh:(l.drop t).take (n-t)=l.drop t:=List.take_of_length_le (by rw[List.length_drop,hln];exact Ai _)
   rw[hh];simp
  rw[←this];exact Ay.lower h3 he.hsize)
 have x0:w.cell? ⟨g,0,none⟩=some (.slice A n c):=(hb.cell 0).trans h0;have hgw:=hb.lt;have HB:=A4 hb;have HL:=A4 hl;have H34:=A4 h34;have H66:=A4 h66;have HMl:Hid ((l.take f++x++l.drop t).length≤4096):=A4 (by simp;omega)
 have Hln:=A4 hln;have hfc:f≤c:=by omega
 have htc:t≤c:=by omega
 have hfn:f≤n:=by omega
 clear hb h0 h34 h66 hl hx hT hln hxl hm;go_enter Tryz.func136,Tryz.ntmps136
 go_upto_region 0 with fail
 refine wp_region_held_drew (S:=fun w'=>w'.cell? ⟨g,0,none⟩=some (.slice A n c)) (by kernel_rfl) x0 (fun hHeld=>?_)
 refine F4 (i:=0) (v:=(.pointer (some ⟨g,0,none⟩))) rfl (fun w hSw=>by have hSw:w.cell? ⟨g,0,none⟩=some (.slice A n c):=hSw;go_simp) hHeld ?_
 refine F4 (i:=1) (v:=(.pointer (some ⟨g,0,none⟩))) rfl (fun w hSw=>by have hSw:w.cell? ⟨g,0,none⟩=some (.slice A n c):=hSw;go_simp) hHeld ?_
 refine F4 (i:=2) (v:=(.pointer (some ⟨g,0,none⟩))) rfl (fun w hSw=>by have hSw:w.cell? ⟨g,0,none⟩=some (.slice A n c):=hSw;go_simp) hHeld ?_
 refine F4 (i:=3) (v:=(.pointer (some ⟨g,0,none⟩))) rfl (fun w hSw=>by have hSw:w.cell? ⟨g,0,none⟩=some (.slice A n c):=hSw;go_simp) hHeld ?_
 refine F4 (i:=4) (v:=(.slice A n c)) rfl (fun w hSw=>by have hSw:w.cell? ⟨g,0,none⟩=some (.slice A n c):=hSw;go_simp) hHeld ?_
 refine F4 (i:=5) (v:=(.int .i64 (f:Int))) rfl (fun w hSw=>by have hSw:w.cell? ⟨g,0,none⟩=some (.slice A n c):=hSw;go_simp) hHeld ?_
 refine F4 (i:=6) (v:=(.slice A f c)) rfl (fun w hSw=>by have hSw:w.cell? ⟨g,0,none⟩=some (.slice A n c):=hSw;go_simp) hHeld ?_
 refine F4 (i:=7) (v:=(.slice T m d)) rfl (fun w hSw=>by have hSw:w.cell? ⟨g,0,none⟩=some (.slice A n c):=hSw;go_simp) hHeld ?_
 refine F4 (i:=8) (v:=(.pointer (some ⟨g,0,none⟩))) rfl (fun w hSw=>by have hSw:w.cell? ⟨g,0,none⟩=some (.slice A n c):=hSw;go_simp) hHeld ?_
 refine F4 (i:=9) (v:=(.pointer (some ⟨g,0,none⟩))) rfl (fun w hSw=>by have hSw:w.cell? ⟨g,0,none⟩=some (.slice A n c):=hSw;go_simp) hHeld ?_
 refine F4 (i:=10) (v:=(.pointer (some ⟨g,0,none⟩))) rfl (fun w hSw=>by have hSw:w.cell? ⟨g,0,none⟩=some (.slice A n c):=hSw;go_simp) hHeld ?_
 refine F4 (i:=11) (v:=(.pointer (some ⟨g,0,none⟩))) rfl (fun w hSw=>by have hSw:w.cell? ⟨g,0,none⟩=some (.slice A n c):=hSw;go_simp) hHeld ?_
 refine F4 (i:=12) (v:=(.slice A n c)) rfl (fun w hSw=>by have hSw:w.cell? ⟨g,0,none⟩=some (.slice A n c):=hSw;go_simp) hHeld ?_
 refine F4 (i:=13) (v:=(.int .i64 (t:Int))) rfl (fun w hSw=>by have hSw:w.cell? ⟨g,0,none⟩=some (.slice A n c):=hSw;go_simp) hHeld ?_
 refine F4 (i:=14) (v:=(.slice T2 (n-t) (c-t))) rfl (fun w hSw=>by have hSw:w.cell? ⟨g,0,none⟩=some (.slice A n c):=hSw;go_simp) hHeld ?_
 refine wpAnyH_ready (rs:=[15]) (by kernel_rfl) (by simp) ?_
 refine Ah rfl (fun K hK=>?_) Ak
 go_simp
 refine hK.out _ _ ((Al.alloc w.drew _).cell x0) (fun hHeld2=>?_)
 clear hK K hHeld
 try simp only[Ab,A7,Aa,Am,A6,Ac,Ad]
 refine wpAnyH_ready (rs:=[16]) (by kernel_rfl) (by simp) ?_
 refine Ah rfl (fun K hK=>?_) Ak
 refine Bs rfl 87 #[.slice (some ⟨w.heap.size,0,none⟩) 3 3] rfl (by kernel_rfl) (fun v w'=>∃B q b,v=.slice B q b∧Av w' w.heap.size B q b (l.take f++x++l.drop t)∧Al w w') (HC.out.mono fun e w' ⟨B,q,b,h1,h2,h3⟩=>⟨_,h1,B,q,b,rfl,h2,h3⟩) ?_
 rintro v w3 ⟨B,q,b,rfl,hO3,hx3⟩;refine hK.out _ _ (hx3.cell x0) (fun hHeld3=>?_)
 clear hK K hHeld2 hT2
 try simp only[Ab,A7,Aa,Am,A6,Ac,Ad]
 refine F4 (i:=17) (v:=(.slice B q b)) rfl (fun w hSw=>by have hSw:w.cell? ⟨g,0,none⟩=some (.slice A n c):=hSw;go_simp) hHeld3 ?_
 refine wpAnyH_done (by kernel_rfl) ?_ _
 obtain⟨M,hM⟩:∃M,l.take f++x++l.drop t=M:=⟨_,rfl⟩;rw[hM]at hO3 HMl;have HMm:=A4 hM;have hql:=hO3.ints.len;have HBe:=A4 (jV (HL.out.ext hx3) hO3.ints (Ay.nocap hO3) (by omega) (by have:=HMl.out;omega))
 have HO3:=A4 hO3;have HX3:=A4 hx3;have HQl:=A4 hql;clear hM hO3 hx3 hql HC x0;go_wp2_with fail
 refine HBe.out.mono ?_
 rintro e' w4 ⟨O,k,z,ed,rfl,hed,hmk,hx4⟩;have hb4:=(HB.out.ext HX3.out).ext hx4;have c66:w4.cell? ⟨g,66,none⟩=some v66:=(hb4.cell 66).trans H66.out;have f66:=hb4.frozen 66;have hb5:=hb4.set_ 66 (.slice O k z);have c34:(w4.setCell ⟨g,66,none⟩ (.slice O k z)).cell? ⟨g,34,none⟩=some v34:=by
  rw[hb5.cell 34,Array.getElem?_setIfInBounds_ne (by omega)];exact H34.out
 have f34:=hb5.frozen 34;have HB6:=A4 (hb5.set_ 34 (.slice B q b));have HED:=A4 ((Dq.lower hed HX3.out.hsize).kept (Eu w4 ⟨g,66,none⟩ (.slice O k z)) (fun k e=>by injection e with e;have e:g=k:=e;omega) |>.kept (Eu _ ⟨g,34,none⟩ (.slice B q b)) (fun k e=>by injection e with e;have e:g=k:=e;omega))
 have HOW:=A4 (Ay.setCell (Ay.setCell (Ay.ext HO3.out hx4) (p:=⟨g,66,none⟩) hgw (.slice O k z)) (p:=⟨g,34,none⟩) hgw (.slice B q b));have HGR:=A4 (Co (Co (Ev (HX3.out.trans hx4) (some g)) (Eu w4 ⟨g,66,none⟩ (.slice O k z))) (Eu _ ⟨g,34,none⟩ (.slice B q b)));have HMK:Hid (F3 l M ed):=A4 (by
  obtain⟨k',j',h1,h2⟩:=hmk;refine⟨k',j',h1,?_⟩
  rw[Hln.out,HQl.out];exact h2)
 have HFr:Hid (∀g',(Aj B q b).ownBlock=some g'→Dq ((w4.setCell ⟨g,66,none⟩ (.slice O k z)).setCell ⟨g,34,none⟩ (.slice B q b)) (g'+1) (.slice O k z) ed):=A4 (fun g' hg'=>by
  obtain⟨h1,h2⟩:=Ay.blk HO3.out g' hg';exact((Dq.lower hed h2).kept (Eu w4 ⟨g,66,none⟩ (.slice O k z)) (fun k e=>by injection e with e;have e:g=k:=e;omega)).kept (Eu _ ⟨g,34,none⟩ (.slice B q b)) (fun k e=>by injection e with e;have e:g=k:=e;omega))
 clear hed hmk hx4 hb4 hb5 HBe HB HL;go_wp2_with fail
 go_end0
 exact⟨⟨_,rfl⟩,HGR.out,B,q,b,O,k,z,ed,HB6.out,HMm.out▸HOW.out,HED.out,HMm.out▸HMK.out,HFr.out⟩
theorem Gy {o:Oper}{a:Act}(hgd:o.guard=none)(ty:TypeId)(x:Operand)(ho:o.op=.load ty x)(g off:Nat)(hx:a.eval x=.pointer (some ⟨g,off,none⟩))(t:TypeId)(cs vs:Array Value)(fr:Nat×Nat)(d:TypeDesc)(hg:w.heap[g]? = some (.cells cs t fr))(hv:∀j v,vs[j]? = some v→cs[off+j]? = some v)
 (hu:P.underlying ty=some d) (hd:(match d with|.struct _|.array _ _=>true|_=>false)=true) (hi:(P.info? ty).map (·.size)=some vs.size):(execOp a.eval o).run P w=.ok (.value (.agg vs)) w:=by
 unfold execOp;simp only[ho,hx,Instr.loadAt,Instr.sureAddr,Sem.run_bind,Sem.run_pure,Result.andThen_ok,Hp w g off t ty cs vs fr d hg hv hu hd hi]
theorem P9 {cs vs:Array Value}(h:vs.size=cs.size):Lj cs 0 vs=vs:=by
 unfold Lj;rw[List.drop_of_length_le (by simp;omega)]
 simp
def Td (rl:Nat→List Int)(k:Int)(text:List Int)(x:Int)(rs':Nat→List Int):Prop:=
 (x≠0∧¬ ∃i m,F6 k=some (i,m)∧¬G8 rl i m text)∨(x=0∧∃i m,F6 k=some (i,m)∧¬G8 rl i m text∧rs'=Nx rl i m text)
theorem qO {k:Int}{text:List Int}(hr:Ka w cs rl)(ht:Bi w A n c text)(hA:A=none→c=0):
 Calls Tryz.prog 145 #[.agg cs,.int .i64 k,.slice A n c] w fun e w'=>∃ds x rs',e=.returned (.tuple #[.agg ds,.int .i64 x])∧E8 w' w.heap.size ds rs'∧Td rl k text x rs'∧Al w w':=by
 cases h:F6 k with
 |none=>exact(qN h).mono fun e w' ⟨h1,h2⟩=>⟨Bw,9,_,h1,Uc _ _,.inl ⟨by decide,fun⟨i,m,h9,_⟩=>by rw[h]at h9;cases h9⟩,h2⟩
 |some p=>
  obtain⟨i,m⟩:=p;by_cases hb:G8 rl i m text
  ·exact(gX hr ht h hb).mono fun e w' ⟨h1,h2⟩=>⟨Bw,2,_,h1,Uc _ _,.inl ⟨by decide,fun⟨i',m',h9,h8⟩=>by rw[h]at h9;injection h9 with h9;injection h9 with h9 h7;subst h9;subst h7;exact h8 hb⟩,h2⟩
  ·exact(uO hr ht hA h hb).mono fun e w' ⟨ds,h1,h2,h3⟩=>⟨ds,0,_,h1,h2.1,.inr ⟨rfl,i,m,h,hb,rfl⟩,h3⟩
def wP (w:World)(g:Nat)(cs:Array Value)(rl:Nat→List Int)(k:Int)(text:List Int)(e:Ending)(w':World):Prop:=
 ∃x,e=.returned (.int .i64 x)∧w.grownBy w' (some g)∧((∃i m,F6 k=some (i,m)∧¬G8 rl i m text)→x=0)∧(x=0→∃ds rs',An w' g 185 (Lj cs 36 ds)∧E8 w' w.heap.size ds rs'∧∃i m,F6 k=some (i,m)∧¬G8 rl i m text∧rs'=Nx rl i m text)
theorem rP {k2:Int}(hb:An w g 185 cs)(hz:cs.size=67)(h0:cs[0]? = some (.slice A n c))(h30:cs[30]? = some (.int .i64 k2))(hrs:∀j,j<27→cs[2+j]? = rs[j]?)(hr:Ka w rs rl)(hl:Bi w A n c l)(hA:A=none→c=0)(hft:f≤t)(htn:t≤n)(hn:n≤200):
 Calls Tryz.prog 135 #[.pointer (some ⟨g,0,none⟩),.int .i64 (f:Int),.int .i64 (t:Int)] w (wP w g cs rl k2 ((l.drop f).take (t-f))):=by
 have hnc:=hl.ncap;have hcm:=hl.nmax;unfold maxLen at hcm;have x0:w.cell? ⟨g,0,none⟩=some (.slice A n c):=(hb.cell 0).trans h0;have x30:w.cell? ⟨g,30,none⟩=some (.int .i64 k2):=(hb.cell 30).trans h30;have hgw:=hb.lt;have HB:=A4 hb;have HZ:=A4 hz;have HRs:=A4 hr.1;have HRv:Hid (∀j v,rs[j]? = some v→cs[2+j]? = some v):=A4 (fun j v hj=>by
  have hlt:=(Array.getElem?_eq_some_iff.1 hj).1;rw[hr.1]at hlt;rw[hrs j hlt];exact hj)
 obtain⟨T2,hT2⟩:∃T2,(if c=f then A else Option.map (fun x=>x.add f) A)=T2:=⟨_,rfl⟩
 have HP:Hid (∀wx,Al w wx→Calls Tryz.prog 145 #[.agg rs,.int .i64 k2,.slice T2 (t-f) (c-f)] wx fun e w'=>∃ds x rs',e=.returned (.tuple #[.agg ds,.int .i64 x])∧E8 w' wx.heap.size ds rs'∧Td rl k2 ((l.drop f).take (t-f)) x rs'∧Al wx w'):=A4 fun wx he=>by
  have h:=(hl.ext he).cut hft htn;rw[hT2]at h;refine qO (hr.ext he) h (fun e=>?_)
  rw[←hT2]at e;by_cases hcf:c=f
  ·omega
  ·rw[if_neg hcf]at e
   cases A with
   |none=>have:=hA rfl;omega
   |some a=>cases e
 have hfc:f≤c:=by omega
 have htc:t≤c:=by omega
 have hfn:f≤n:=by omega
 clear hb hz h0 h30 hrs hr hl hA;go_enter Tryz.func135,Tryz.ntmps135
 go_upto_region 1 with fail
 go_cut [7,8] (fun v7 v8 wx=>∃p ds x rs',v7=.pointer (some ⟨p,0,none⟩)∧v8=.int .i64 x∧w.heap.size≤p∧Hid (An wx p 40 ds)∧Hid (E8 wx w.heap.size ds rs')∧Hid (Td rl k2 ((l.drop f).take (t-f)) x rs')∧Hid (Al w wx))
 case first=>
  refine wp_region_held_drew (S:=fun w'=>w'.cell? ⟨g,0,none⟩=some (.slice A n c)∧w'.cell? ⟨g,30,none⟩=some (.int .i64 k2)∧An w' g 185 cs) (by kernel_rfl) ⟨x0,x30,HB.out⟩ (fun hHeld=>?_)
  refine Bo (i:=0) (v:=(.pointer (some ⟨g,0,none⟩))) rfl hHeld ?_
  refine Bo (i:=1) (v:=(.pointer (some ⟨g,0,none⟩))) rfl hHeld ?_
  refine Bo (i:=2) (v:=(.pointer (some ⟨g,2,none⟩))) rfl hHeld ?_
  refine F4 (i:=3) (v:=(.agg rs)) rfl (fun w hSw=>by exact Gy rfl 40 (.tmp 12) rfl g 2 rfl 185 cs rs (0,0) _ hSw.2.2 HRv.out Tryz.underlying40 rfl (Cu HRs.out)) hHeld ?_
  refine Bo (i:=4) (v:=(.pointer (some ⟨g,0,none⟩))) rfl hHeld ?_
  refine Bo (i:=5) (v:=(.pointer (some ⟨g,0,none⟩))) rfl hHeld ?_
  refine Bo (i:=6) (v:=(.pointer (some ⟨g,29,none⟩))) rfl hHeld ?_
  refine Bo (i:=7) (v:=(.pointer (some ⟨g,30,none⟩))) rfl hHeld ?_
  refine Bo (i:=8) (v:=(.int .i64 k2)) rfl hHeld ?_
  refine Bo (i:=9) (v:=(.pointer (some ⟨g,0,none⟩))) rfl hHeld ?_
  refine Bo (i:=10) (v:=(.pointer (some ⟨g,0,none⟩))) rfl hHeld ?_
  refine Bo (i:=11) (v:=(.pointer (some ⟨g,0,none⟩))) rfl hHeld ?_
  refine Bo (i:=12) (v:=(.pointer (some ⟨g,0,none⟩))) rfl hHeld ?_
  refine Bo (i:=13) (v:=(.slice A n c)) rfl hHeld ?_
  refine Bo (i:=14) (v:=(.int .i64 (f:Int))) rfl hHeld ?_
  refine Bo (i:=15) (v:=(.int .i64 (t:Int))) rfl hHeld ?_
  refine Bo (i:=16) (v:=(.slice T2 (t-f) (c-f))) rfl hHeld ?_
  refine wpAnyH_ready (rs:=[17,21]) (by kernel_rfl) (by simp) ?_
  refine Ah rfl (fun K hK=>?_) (Ah rfl (fun K hK=>?_) Ak)
  ·refine Bs rfl 145 #[.agg rs,.int .i64 k2,.slice T2 (t-f) (c-f)] rfl (by kernel_rfl) (fun v w'=>∃ds x rs',v=.tuple #[.agg ds,.int .i64 x]∧E8 w' w.drew.heap.size ds rs'∧Td rl k2 (l.drop f |>.take (t-f)) x rs'∧Al w.drew w') ((HP.out _ (Al.drew w)).mono fun e w' ⟨ds,x,rs',h1,h2,h3,h4⟩=>⟨_,h1,ds,x,rs',rfl,h2,h3,h4⟩) ?_
   rintro v w3 ⟨ds,x,rs',rfl,hR3,hP3,hx3⟩;have hb3:=(HB.out.ext (Al.drew w)).ext hx3;refine hK.out _ _ ⟨hx3.cell x0,hx3.cell x30,hb3⟩ (fun hHeld2=>?_)
   clear hK K hHeld
   try simp only[Ab,A7,Aa,Am,A6,Ac,Ad]
   refine Bo (i:=18) (v:=(.tuple #[.agg ds,.int .i64 x])) rfl hHeld2 ?_
   refine Bo (i:=19) (v:=(.agg ds)) rfl hHeld2 ?_
   refine Bo (i:=20) (v:=(.int .i64 x)) rfl hHeld2 ?_
   refine wpAnyH_ready (rs:=[21]) (by kernel_rfl) (by simp) ?_
   refine Ah rfl (fun K hK=>?_) Ak
   go_simp
   have hxa:=Al.alloc w3 (.cells #[.slice none 0 0,.slice none 0 0,.slice none 0 0,.slice none 0 0,.slice none 0 0,.slice none 0 0,.slice none 0 0,.slice none 0 0,.slice none 0 0,.slice none 0 0,.slice none 0 0,.slice none 0 0,.slice none 0 0,.slice none 0 0,.slice none 0 0,.slice none 0 0,.slice none 0 0,.slice none 0 0,.slice none 0 0,.slice none 0 0,.slice none 0 0,.slice none 0 0,.slice none 0 0,.slice none 0 0,.slice none 0 0,.slice none 0 0,.slice none 0 0] 40);refine hK.out _ _ ⟨hxa.cell (hx3.cell x0),hxa.cell (hx3.cell x30),hb3.ext hxa⟩ (fun hHeld3=>?_)
   clear hK K hHeld2
   try simp only[Ab,A7,Aa,Am,A6,Ac,Ad]
   refine wpAnyH_ready (rs:=[22]) (by kernel_rfl) (by simp) ?_
   refine Ah rfl (fun K hK=>?_) Ak
   refine Bv rfl 40 (.tmp 7) (.tmp 28) rfl w3.heap.size 0 ds rfl rfl 40 #[.slice none 0 0,.slice none 0 0,.slice none 0 0,.slice none 0 0,.slice none 0 0,.slice none 0 0,.slice none 0 0,.slice none 0 0,.slice none 0 0,.slice none 0 0,.slice none 0 0,.slice none 0 0,.slice none 0 0,.slice none 0 0,.slice none 0 0,.slice none 0 0,.slice none 0 0,.slice none 0 0,.slice none 0 0,.slice none 0 0,.slice none 0 0,.slice none 0 0,.slice none 0 0,.slice none 0 0,.slice none 0 0,.slice none 0 0,.slice none 0 0] (An.new w3 _ _) (Cu hR3.1) (by rw[hR3.1];exact Ai 27) hR3.regs.one ?_
   have hxf:Al w3 ((w3.alloc (.cells #[.slice none 0 0,.slice none 0 0,.slice none 0 0,.slice none 0 0,.slice none 0 0,.slice none 0 0,.slice none 0 0,.slice none 0 0,.slice none 0 0,.slice none 0 0,.slice none 0 0,.slice none 0 0,.slice none 0 0,.slice none 0 0,.slice none 0 0,.slice none 0 0,.slice none 0 0,.slice none 0 0,.slice none 0 0,.slice none 0 0,.slice none 0 0,.slice none 0 0,.slice none 0 0,.slice none 0 0,.slice none 0 0,.slice none 0 0,.slice none 0 0] 40)).setRow w3.heap.size (Lj #[.slice none 0 0,.slice none 0 0,.slice none 0 0,.slice none 0 0,.slice none 0 0,.slice none 0 0,.slice none 0 0,.slice none 0 0,.slice none 0 0,.slice none 0 0,.slice none 0 0,.slice none 0 0,.slice none 0 0,.slice none 0 0,.slice none 0 0,.slice none 0 0,.slice none 0 0,.slice none 0 0,.slice none 0 0,.slice none 0 0,.slice none 0 0,.slice none 0 0,.slice none 0 0,.slice none 0 0,.slice none 0 0,.slice none 0 0,.slice none 0 0] 0 ds)):=Al.setRow (Al.alloc w3 _) (Ai _) _;have hbf:An ((w3.alloc (.cells #[.slice none 0 0,.slice none 0 0,.slice none 0 0,.slice none 0 0,.slice none 0 0,.slice none 0 0,.slice none 0 0,.slice none 0 0,.slice none 0 0,.slice none 0 0,.slice none 0 0,.slice none 0 0,.slice none 0 0,.slice none 0 0,.slice none 0 0,.slice none 0 0,.slice none 0 0,.slice none 0 0,.slice none 0 0,.slice none 0 0,.slice none 0 0,.slice none 0 0,.slice none 0 0,.slice none 0 0,.slice none 0 0,.slice none 0 0,.slice none 0 0] 40)).setRow w3.heap.size (Lj #[.slice none 0 0,.slice none 0 0,.slice none 0 0,.slice none 0 0,.slice none 0 0,.slice none 0 0,.slice none 0 0,.slice none 0 0,.slice none 0 0,.slice none 0 0,.slice none 0 0,.slice none 0 0,.slice none 0 0,.slice none 0 0,.slice none 0 0,.slice none 0 0,.slice none 0 0,.slice none 0 0,.slice none 0 0,.slice none 0 0,.slice none 0 0,.slice none 0 0,.slice none 0 0,.slice none 0 0,.slice none 0 0,.slice none 0 0,.slice none 0 0] 0 ds)) w3.heap.size 40 (Lj #[.slice none 0 0,.slice none 0 0,.slice none 0 0,.slice none 0 0,.slice none 0 0,.slice none 0 0,.slice none 0 0,.slice none 0 0,.slice none 0 0,.slice none 0 0,.slice none 0 0,.slice none 0 0,.slice none 0 0,.slice none 0 0,.slice none 0 0,.slice none 0 0,.slice none 0 0,.slice none 0 0,.slice none 0 0,.slice none 0 0,.slice none 0 0,.slice none 0 0,.slice none 0 0,.slice none 0 0,.slice none 0 0,.slice none 0 0,.slice none 0 0] 0 ds):=An.setRow (An.new w3 40 #[.slice none 0 0,.slice none 0 0,.slice none 0 0,.slice none 0 0,.slice none 0 0,.slice none 0 0,.slice none 0 0,.slice none 0 0,.slice none 0 0,.slice none 0 0,.slice none 0 0,.slice none 0 0,.slice none 0 0,.slice none 0 0,.slice none 0 0,.slice none 0 0,.slice none 0 0,.slice none 0 0,.slice none 0 0,.slice none 0 0,.slice none 0 0,.slice none 0 0,.slice none 0 0,.slice none 0 0,.slice none 0 0,.slice none 0 0,.slice none 0 0]) _;rw[P9 (by rw[hR3.1];rfl)]at hxf hbf ⊢
   have HF:=A4 (Be hbf (Be (hR3.ext hxf) (((Al.drew w).trans hx3).trans hxf)));have hlt:w.heap.size≤w3.heap.size:=hx3.hsize;refine hK.out _ _ ⟨hxf.cell (hx3.cell x0),hxf.cell (hx3.cell x30),hb3.ext hxf⟩ (fun hHeld4=>?_)
   clear hK K hHeld3
   try simp only[Ab,A7,Aa,Am,A6,Ac,Ad]
   refine Bo (i:=23) (v:=(.int .i64 x)) rfl hHeld4 ?_
   refine wpAnyH_done (by kernel_rfl) ?_ _
   try go_wp2_with fail
   go_meet
   exact⟨w3.heap.size,ds,x,rs',rfl,rfl,hlt,A4 HF.out.1,A4 (E8.lower HF.out.2.1 (show w.heap.size≤w.drew.heap.size from Ai _)),A4 hP3,A4 HF.out.2.2⟩
  ·go_simp
   have hxa:Al w (w.drew.alloc (.cells #[.slice none 0 0,.slice none 0 0,.slice none 0 0,.slice none 0 0,.slice none 0 0,.slice none 0 0,.slice none 0 0,.slice none 0 0,.slice none 0 0,.slice none 0 0,.slice none 0 0,.slice none 0 0,.slice none 0 0,.slice none 0 0,.slice none 0 0,.slice none 0 0,.slice none 0 0,.slice none 0 0,.slice none 0 0,.slice none 0 0,.slice none 0 0,.slice none 0 0,.slice none 0 0,.slice none 0 0,.slice none 0 0,.slice none 0 0,.slice none 0 0] 40)):=(Al.drew w).to_alloc _;have hba:An (w.drew.alloc (.cells #[.slice none 0 0,.slice none 0 0,.slice none 0 0,.slice none 0 0,.slice none 0 0,.slice none 0 0,.slice none 0 0,.slice none 0 0,.slice none 0 0,.slice none 0 0,.slice none 0 0,.slice none 0 0,.slice none 0 0,.slice none 0 0,.slice none 0 0,.slice none 0 0,.slice none 0 0,.slice none 0 0,.slice none 0 0,.slice none 0 0,.slice none 0 0,.slice none 0 0,.slice none 0 0,.slice none 0 0,.slice none 0 0,.slice none 0 0,.slice none 0 0] 40)) w.heap.size 40 #[.slice none 0 0,.slice none 0 0,.slice none 0 0,.slice none 0 0,.slice none 0 0,.slice none 0 0,.slice none 0 0,.slice none 0 0,.slice none 0 0,.slice none 0 0,.slice none 0 0,.slice none 0 0,.slice none 0 0,.slice none 0 0,.slice none 0 0,.slice none 0 0,.slice none 0 0,.slice none 0 0,.slice none 0 0,.slice none 0 0,.slice none 0 0,.slice none 0 0,.slice none 0 0,.slice none 0 0,.slice none 0 0,.slice none 0 0,.slice none 0 0]:=An.new w.drew _ _
   skip
   refine hK.out _ _ ⟨hxa.cell x0,hxa.cell x30,HB.out.ext hxa⟩ (fun hHeld2=>?_)
   clear hK K hHeld
   try simp only[Ab,A7,Aa,Am,A6,Ac,Ad]
   refine wpAnyH_ready (rs:=[17]) (by kernel_rfl) (by simp) ?_
   refine Ah rfl (fun K hK=>?_) Ak
   refine Bs rfl 145 #[.agg rs,.int .i64 k2,.slice T2 (t-f) (c-f)] rfl (by kernel_rfl) (fun v w'=>∃ds x rs',v=.tuple #[.agg ds,.int .i64 x]∧E8 w' (w.drew.alloc (.cells #[.slice none 0 0,.slice none 0 0,.slice none 0 0,.slice none 0 0,.slice none 0 0,.slice none 0 0,.slice none 0 0,.slice none 0 0,.slice none 0 0,.slice none 0 0,.slice none 0 0,.slice none 0 0,.slice none 0 0,.slice none 0 0,.slice none 0 0,.slice none 0 0,.slice none 0 0,.slice none 0 0,.slice none 0 0,.slice none 0 0,.slice none 0 0,.slice none 0 0,.slice none 0 0,.slice none 0 0,.slice none 0 0,.slice none 0 0,.slice none 0 0] 40)).heap.size ds rs'∧Td rl k2 (l.drop f |>.take (t-f)) x rs'∧Al (w.drew.alloc (.cells #[.slice none 0 0,.slice none 0 0,.slice none 0 0,.slice none 0 0,.slice none 0 0,.slice none 0 0,.slice none 0 0,.slice none 0 0,.slice none 0 0,.slice none 0 0,.slice none 0 0,.slice none 0 0,.slice none 0 0,.slice none 0 0,.slice none 0 0,.slice none 0 0,.slice none 0 0,.slice none 0 0,.slice none 0 0,.slice none 0 0,.slice none 0 0,.slice none 0 0,.slice none 0 0,.slice none 0 0,.slice none 0 0,.slice none 0 0,.slice none 0 0] 40)) w') ((HP.out _ hxa).mono fun e w' ⟨ds,x,rs',h1,h2,h3,h4⟩=>⟨_,h1,ds,x,rs',rfl,h2,h3,h4⟩) ?_
   rintro v w3 ⟨ds,x,rs',rfl,hR3,hP3,hx3⟩;have hb3:=(HB.out.ext hxa).ext hx3;have hc3:=hba.ext hx3;refine hK.out _ _ ⟨hx3.cell (hxa.cell x0),hx3.cell (hxa.cell x30),hb3⟩ (fun hHeld3=>?_)
   clear hK K hHeld2
   try simp only[Ab,A7,Aa,Am,A6,Ac,Ad]
   refine Bo (i:=18) (v:=(.tuple #[.agg ds,.int .i64 x])) rfl hHeld3 ?_
   refine Bo (i:=19) (v:=(.agg ds)) rfl hHeld3 ?_
   refine Bo (i:=20) (v:=(.int .i64 x)) rfl hHeld3 ?_
   refine wpAnyH_ready (rs:=[22]) (by kernel_rfl) (by simp) ?_
   refine Ah rfl (fun K hK=>?_) Ak
   refine Bv rfl 40 (.tmp 7) (.tmp 28) rfl w.heap.size 0 ds rfl rfl 40 #[.slice none 0 0,.slice none 0 0,.slice none 0 0,.slice none 0 0,.slice none 0 0,.slice none 0 0,.slice none 0 0,.slice none 0 0,.slice none 0 0,.slice none 0 0,.slice none 0 0,.slice none 0 0,.slice none 0 0,.slice none 0 0,.slice none 0 0,.slice none 0 0,.slice none 0 0,.slice none 0 0,.slice none 0 0,.slice none 0 0,.slice none 0 0,.slice none 0 0,.slice none 0 0,.slice none 0 0,.slice none 0 0,.slice none 0 0,.slice none 0 0] hc3 (Cu hR3.1) (by rw[hR3.1];exact Ai 27) hR3.regs.one ?_
   have hxf:Al w (w3.setRow w.heap.size (Lj #[.slice none 0 0,.slice none 0 0,.slice none 0 0,.slice none 0 0,.slice none 0 0,.slice none 0 0,.slice none 0 0,.slice none 0 0,.slice none 0 0,.slice none 0 0,.slice none 0 0,.slice none 0 0,.slice none 0 0,.slice none 0 0,.slice none 0 0,.slice none 0 0,.slice none 0 0,.slice none 0 0,.slice none 0 0,.slice none 0 0,.slice none 0 0,.slice none 0 0,.slice none 0 0,.slice none 0 0,.slice none 0 0,.slice none 0 0,.slice none 0 0] 0 ds)):=Al.setRow (hxa.trans hx3) (Ai _) _;have hbf:An (w3.setRow w.heap.size (Lj #[.slice none 0 0,.slice none 0 0,.slice none 0 0,.slice none 0 0,.slice none 0 0,.slice none 0 0,.slice none 0 0,.slice none 0 0,.slice none 0 0,.slice none 0 0,.slice none 0 0,.slice none 0 0,.slice none 0 0,.slice none 0 0,.slice none 0 0,.slice none 0 0,.slice none 0 0,.slice none 0 0,.slice none 0 0,.slice none 0 0,.slice none 0 0,.slice none 0 0,.slice none 0 0,.slice none 0 0,.slice none 0 0,.slice none 0 0,.slice none 0 0] 0 ds)) w.heap.size 40 (Lj #[.slice none 0 0,.slice none 0 0,.slice none 0 0,.slice none 0 0,.slice none 0 0,.slice none 0 0,.slice none 0 0,.slice none 0 0,.slice none 0 0,.slice none 0 0,.slice none 0 0,.slice none 0 0,.slice none 0 0,.slice none 0 0,.slice none 0 0,.slice none 0 0,.slice none 0 0,.slice none 0 0,.slice none 0 0,.slice none 0 0,.slice none 0 0,.slice none 0 0,.slice none 0 0,.slice none 0 0,.slice none 0 0,.slice none 0 0,.slice none 0 0] 0 ds):=An.setRow hc3 _;have hsz:w.heap.size<(w.drew.alloc (.cells #[.slice none 0 0,.slice none 0 0,.slice none 0 0,.slice none 0 0,.slice none 0 0,.slice none 0 0,.slice none 0 0,.slice none 0 0,.slice none 0 0,.slice none 0 0,.slice none 0 0,.slice none 0 0,.slice none 0 0,.slice none 0 0,.slice none 0 0,.slice none 0 0,.slice none 0 0,.slice none 0 0,.slice none 0 0,.slice none 0 0,.slice none 0 0,.slice none 0 0,.slice none 0 0,.slice none 0 0,.slice none 0 0,.slice none 0 0,.slice none 0 0] 40)).heap.size:=hba.lt;have hrf:=hR3.setRow (g:=w.heap.size) hsz (Lj #[.slice none 0 0,.slice none 0 0,.slice none 0 0,.slice none 0 0,.slice none 0 0,.slice none 0 0,.slice none 0 0,.slice none 0 0,.slice none 0 0,.slice none 0 0,.slice none 0 0,.slice none 0 0,.slice none 0 0,.slice none 0 0,.slice none 0 0,.slice none 0 0,.slice none 0 0,.slice none 0 0,.slice none 0 0,.slice none 0 0,.slice none 0 0,.slice none 0 0,.slice none 0 0,.slice none 0 0,.slice none 0 0,.slice none 0 0,.slice none 0 0] 0 ds);have hdf:An (w3.setRow w.heap.size (Lj #[.slice none 0 0,.slice none 0 0,.slice none 0 0,.slice none 0 0,.slice none 0 0,.slice none 0 0,.slice none 0 0,.slice none 0 0,.slice none 0 0,.slice none 0 0,.slice none 0 0,.slice none 0 0,.slice none 0 0,.slice none 0 0,.slice none 0 0,.slice none 0 0,.slice none 0 0,.slice none 0 0,.slice none 0 0,.slice none 0 0,.slice none 0 0,.slice none 0 0,.slice none 0 0,.slice none 0 0,.slice none 0 0,.slice none 0 0,.slice none 0 0] 0 ds)) g 185 cs:=HB.out.ext hxf;rw[P9 (by rw[hR3.1];rfl)]at hxf hbf hrf hdf ⊢
   have HF:=A4 (Be hbf (Be hrf hxf));refine hK.out _ _ ⟨hxf.cell x0,hxf.cell x30,hdf⟩ (fun hHeld4=>?_)
   clear hK K hHeld3
   try simp only[Ab,A7,Aa,Am,A6,Ac,Ad]
   refine Bo (i:=23) (v:=(.int .i64 x)) rfl hHeld4 ?_
   refine wpAnyH_done (by kernel_rfl) ?_ _
   try go_wp2_with fail
   go_meet
   exact⟨w.heap.size,ds,x,rs',rfl,rfl,Ai _,A4 HF.out.1,A4 (E8.lower HF.out.2.1 (Nat.le_of_lt hsz)),A4 hP3,A4 HF.out.2.2⟩
 case rest=>
  obtain⟨p,ds,x,rs',rfl,rfl,hp,HBp,HRO,HPR,HXc⟩:=hcut;have HBg:=A4 (HB.out.ext HXc.out);have hxg:=A4 (Ev HXc.out (some g));clear x0 x30 hT2 HP HB;by_cases hx0:x=0
  ·subst hx0
   have Sk:Hid (∃i m,F6 k2=some (i,m)∧¬G8 rl i m ((l.drop f).take (t-f))∧rs'=Nx rl i m ((l.drop f).take (t-f))):=A4 (by
    rcases HPR.out with h|⟨_,h⟩
    ·exact absurd rfl h.1
    ·exact h)
   have hds:=A4 HRO.out.1;have hone:=A4 HRO.out.regs.one;go_wp2_with (first
    |(refine wpList_load_row rfl 40 (.tmp 7) rfl p rfl 40 ds (0,0) _ HBp.out Tryz.underlying40 rfl (Cu hds.out) ?_)
    |(refine Jk rfl 40 (.tmp 36) (.tmp 33) rfl g 36 ds rfl rfl 185 cs HBg.out (Cu hds.out) (by rw[hds.out,HZ.out];decide) hone.out ?_))
   go_ret
   exact⟨0,rfl,Co hxg.out (Eo _ _ _),fun _=>rfl,fun _=>⟨ds,rs',An.setRow HBg.out _,E8.setRow HRO.out hgw _,Sk.out⟩⟩
  ·go_wp2_with fail
   go_ret
   exact⟨x,rfl,hxg.out,fun h=>by rcases HPR.out with h9|h9;exact absurd h h9.2;exact h9.1,fun h=>absurd h hx0⟩
def Lv (x:Int):Int:=if 97≤x∧x≤122 then x-32 else if 65≤x∧x≤90 then x+32 else x
theorem oZ:∀n:Fin 26,bits .xor .i64 (97+(n.val:Int)) 32=65+(n.val:Int):=by decide +kernel
theorem sX:∀n:Fin 26,bits .xor .i64 (65+(n.val:Int)) 32=97+(n.val:Int):=by decide +kernel
theorem lN {x:Int}(h1:97≤x)(h2:x≤122):bits .xor .i64 x 32=Lv x:=by
 have h:=oZ ⟨(x-97).toNat,by omega⟩
 rw[show(97:Int)+(((⟨(x-97).toNat,by omega⟩:Fin 26).val:Nat):Int)=x by simp;omega]at h
 rw[h];unfold Lv;rw[if_pos ⟨h1,h2⟩];simp;omega
theorem qD {x:Int}(h1:65≤x)(h2:x≤90):bits .xor .i64 x 32=Lv x:=by
 have h:=sX ⟨(x-65).toNat,by omega⟩
 rw[show(65:Int)+(((⟨(x-65).toNat,by omega⟩:Fin 26).val:Nat):Int)=x by simp;omega]at h
 rw[h];unfold Lv;rw[if_neg (by omega),if_pos ⟨h1,h2⟩]
 simp;omega
theorem fR (x:Int)(w:World):Calls Tryz.prog 132 #[.int .i64 x] w fun e w'=>e=.returned (.int .i64 (Lv x))∧w=w':=by
 go_enter Tryz.func132,Tryz.ntmps132
 go_wp2_with fail
 all_goals
  go_ret
  refine⟨?_,rfl⟩
  first
   |(rw[lN (by assumption) (by assumption)];rfl)
   |(rw[qD (by assumption) (by assumption)];rfl)
   |(unfold Lv;rw[if_neg (by omega),if_neg (by omega)];rfl)
def Pu (l:List Int)(a k:Nat):List Int:=l.take a++((l.drop a).take k).map Lv++l.drop (a+k)
theorem jL {g n c a k:Nat}(hb:An w g 185 cs)(h0:cs[0]? = some (.slice A n c))(h1:cs[1]? = some (.int .i64 (a:Int)))(h34:cs[34]? = some v34)(h66:cs[66]? = some v66)(hl:Bi w A n c l)(hn:n≤200)(hak:a+k≤n):
 Calls Tryz.prog 131 #[.pointer (some ⟨g,0,none⟩),.int .i64 (k:Int),.func (.func 132) #[] #[]] w fun e w'=>(∃u,e=.returned u)∧Rv w g cs l (Pu l a k) w':=by
 have N0:=trivial;exact zR
theorem U2 (x y:Int)(w:World)(hx : -1000000≤x∧x≤1000000)(hy:0≤y∧y≤1000000):Calls Tryz.prog 133 #[.int .i64 x,.int .i64 y] w fun e w'=>e=.returned (.int .i64 (max 0 (min x (y-1))))∧w=w':=by
 have hwr:IntKind.i64.wrap (y-1)=y-1:=IntWalk.i64_in _ (by omega)
 go_enter Tryz.func133,Tryz.ntmps133
 go_wp2_with fail
 all_goals
  go_ret
  refine⟨?_,rfl⟩
  show Ending.returned (Value.int .i64 _)=_
  first
   |(congr 2;omega)
   |(congr 2)
theorem Mk.one {g:Nat}{a:Int}{B:Option Addr}{d:Nat}(h:Mk w g cs A n c a rs rl k1 k2 k3 k4 k5 fk fa B d):∀k v,34≤k→cs[k]? = some v→v.oneCell'=true:=by
 intro k v hk hv;have hlt:k<67:=by
  exact I114
 by_cases h1:k=34
 ·subst h1;rw[h.out]at hv;injection hv with hv;subst hv;rfl
 ·by_cases h2:k=35
  ·exact I120
  ·by_cases h3:k<63
   ·obtain⟨u,hu,C,m,e,rfl,_⟩:=h.oregs (k-36) (by omega)
    exact I98
   ·have h4:k=63∨k=64∨k=65∨k=66:=by omega
    rcases h4 with rfl|rfl|rfl|rfl
    ·exact I134
    ·exact I133
    ·exact I132
    ·rw[h.c66]at hv;injection hv with hv;subst hv;rfl
theorem jM {a k:Nat}(h:a+k≤l.length):(Pu l a k).length=l.length:=by
 unfold Pu;simp;omega
structure Do (w:World)(b:Nat)(cs:Array Value)(m:List Int)(at_ md fk fa:Int)(rl:Nat→List Int)(e:List Fh):Prop where
 size:cs.size=67
 text:∃B q d,cs[34]? = some (.slice B q d)∧Av w b B q d m
 oat:cs[35]? = some (.int .i64 at_)
 regs:∀j,j<27→∃v,cs[36+j]? = some v∧Bg w b v (rl j)
 c63:cs[63]? = some (.int .i64 fk)
 c64:cs[64]? = some (.int .i64 fa)
 c65:cs[65]? = some (.int .i64 md)
 edit:∃v,cs[66]? = some v∧Dq w b v e
 far:∀B q d,cs[34]? = some (.slice B q d)→∀g',(Aj B q d).ownBlock=some g'→(∀j,j<27→∀v,cs[36+j]? = some v→v.ownBlock≠some g')∧∃v,cs[66]? = some v∧Dq w (g'+1) v e
section
variable {w w':World} {b g:Nat} {cs:Array Value} {m:List Int} {at_ md fk fa:Int} {rl:Nat→List Int} {e:List Fh}
theorem Do.one (h:Do w b cs m at_ md fk fa rl e):∀k v,34≤k→cs[k]? = some v→v.oneCell'=true:=by
 intro k v hk hv;have hlt:k<67:=by
  exact I114
 by_cases h1:k=34
 ·subst h1;obtain⟨B,q,d,h2,_⟩:=h.text;rw[h2]at hv;injection hv with hv;subst hv;rfl
 ·by_cases h2:k=35
  ·exact I120
  ·by_cases h3:k<63
   ·obtain⟨u,hu,C,m,e,rfl,_⟩:=h.regs (k-36) (by omega)
    exact I98
   ·have h4:k=63∨k=64∨k=65∨k=66:=by omega
    rcases h4 with rfl|rfl|rfl|rfl
    ·exact I134
    ·exact I133
    ·exact I132
    ·obtain⟨u,hu,O,k,c,xs,row,rfl,_⟩:=h.edit
     rw[hu]at hv;injection hv with hv;subst hv;rfl
theorem Do.ext (h:Do w b cs m at_ md fk fa rl e)(he:Al w w'):Do w' b cs m at_ md fk fa rl e:=
 {
  h with
  text:=let ⟨B,q,d,h1,h2⟩:=h.text;⟨B,q,d,h1,Ay.ext h2 he⟩
  regs:=fun j hj=>let ⟨v,h1,h2⟩:=h.regs j hj;⟨v,h1,h2.ext he⟩
  edit:=let ⟨v,h1,h2⟩:=h.edit;⟨v,h1,h2.ext he⟩
  far:=fun B q d h34 g' hg'=>let ⟨h1,v,h2,h3⟩:=h.far B q d h34 g' hg';⟨h1,v,h2,h3.ext he⟩ }
theorem Bg.grown {v:Value}{l:List Int}(h:Bg w b v l)(hg:w.grownBy w' (some g))(hb:g<b):Bg w' b v l:=
 h.kept hg (fun k hk e=>by injection e with e;have:=(h.blk k hk).1;omega)
theorem Av.grown {B:Option Addr}{q d:Nat}{l:List Int}(h:Av w b B q d l)(hg:w.grownBy w' (some g))(hb:g<b):Av w' b B q d l:=by
 refine Ay.kept h hg ?_
 cases hb:(Aj B q d).ownBlock with
 |none=>exact .inl rfl
 |some k=>exact .inr (fun e=>by injection e with e;have:=(Ay.blk h k hb).1;omega)
theorem Dq.grown {v:Value}(h:Dq w b v e)(hg:w.grownBy w' (some g))(hb:g<b):Dq w' b v e:=
 h.kept hg (fun k e=>by injection e with e;omega)
theorem Do.grown (h:Do w b cs m at_ md fk fa rl e)(hg:w.grownBy w' (some g))(hb:g<b):Do w' b cs m at_ md fk fa rl e:=
 {
  h with
  text:=let ⟨B,q,d,h1,h2⟩:=h.text;⟨B,q,d,h1,h2.grown hg hb⟩
  regs:=fun j hj=>let ⟨v,h1,h2⟩:=h.regs j hj;⟨v,h1,h2.grown hg hb⟩
  edit:=let ⟨v,h1,h2⟩:=h.edit;⟨v,h1,h2.grown hg hb⟩
  far:=fun B q d h34 g' hg'=>by
   obtain⟨h1,v,h2,h3⟩:=h.far B q d h34 g' hg';obtain⟨B',q',d',h4,h5⟩:=h.text;rw[h34]at h4;injection h4 with h4;injection h4 with e1 e2 e3;subst e1;subst e2;subst e3;have:=(Ay.blk h5 g' hg').1;exact⟨h1,v,h2,h3.grown hg (by omega)⟩ }
theorem Bq {i k:Nat}{u:Value}(h:i≠k):(cs.setIfInBounds i u)[k]? = cs[k]? := Array.getElem?_setIfInBounds_ne h
theorem J5 {i:Nat}{u:Value}(h:i<cs.size):(cs.setIfInBounds i u)[i]? = some u:=by
 rw[Array.getElem?_setIfInBounds_self,if_pos h]
theorem Do.setAt (h:Do w b cs m at_ md fk fa rl e)(x:Int):Do w b (cs.setIfInBounds 35 (.int .i64 x)) m x md fk fa rl e where
 size:=by simp[h.size]
 text:=by rw[Bq (by omega)];exact h.text
 oat:=J5 (by rw[h.size];omega)
 regs:=fun j hj=>by rw[Bq (by omega)];exact h.regs j hj
 c63:=by rw[Bq (by omega)];exact h.c63
 c64:=by rw[Bq (by omega)];exact h.c64
 c65:=by rw[Bq (by omega)];exact h.c65
 edit:=by rw[Bq (by omega)];exact h.edit
 far:=fun B q d h34 g' hg'=>by
  exact I43
theorem Do.setMode (h:Do w b cs m at_ md fk fa rl e)(x:Int):Do w b (cs.setIfInBounds 65 (.int .i64 x)) m at_ x fk fa rl e where
 size:=by simp[h.size]
 text:=by rw[Bq (by omega)];exact h.text
 oat:=by rw[Bq (by omega)];exact h.oat
 regs:=fun j hj=>by rw[Bq (by omega)];exact h.regs j hj
 c63:=by rw[Bq (by omega)];exact h.c63
 c64:=by rw[Bq (by omega)];exact h.c64
 c65:=J5 (by rw[h.size];omega)
 edit:=by rw[Bq (by omega)];exact h.edit
 far:=fun B q d h34 g' hg'=>by
  exact I43
theorem Do.setPut (h:Do w b cs m at_ md fk fa rl e){B:Option Addr}{q d:Nat}{v:Value}{m':List Int}{e':List Fh}(ho:Av w b B q d m')(he:Dq w b v e')(hfr:∀g',(Aj B q d).ownBlock=some g'→(∀j,j<27→∀v,cs[36+j]? = some v→v.ownBlock≠some g')∧Dq w (g'+1) v e'):
 Do w b ((cs.setIfInBounds 66 v).setIfInBounds 34 (.slice B q d)) m' at_ md fk fa rl e' where
 size:=by simp[h.size]
 text:=⟨B,q,d,J5 (by simp[h.size]),ho⟩
 oat:=by rw[Bq (by omega),Bq (by omega)];exact h.oat
 regs:=fun j hj=>by rw[Bq (by omega),Bq (by omega)];exact h.regs j hj
 c63:=by rw[Bq (by omega),Bq (by omega)];exact h.c63
 c64:=by rw[Bq (by omega),Bq (by omega)];exact h.c64
 c65:=by rw[Bq (by omega),Bq (by omega)];exact h.c65
 edit:=⟨v,by rw[Bq (by omega)];exact J5 (by rw[h.size];omega),he⟩
 far:=fun B' q' d' h34 g' hg'=>by
  rw[J5 (by simp[h.size])]at h34
  injection h34 with h34;injection h34 with e1 e2 e3;subst e1;subst e2;subst e3;obtain⟨h1,h2⟩:=hfr g' hg';exact⟨fun j hj v hv=>by rw[Bq (by omega),Bq (by omega)]at hv;exact h1 j hj v hv,v,by rw[Bq (by omega)];exact J5 (by rw[h.size];omega),h2⟩
theorem Do.setRegs (h:Do w b cs m at_ md fk fa rl e){ds:Array Value}{rl':Nat→List Int}(hr:E8 w b ds rl')(hfr:∀B q d,cs[34]? = some (.slice B q d)→∀g',(Aj B q d).ownBlock=some g'→∀j,j<27→∀v,ds[j]? = some v→v.ownBlock≠some g'):Do w b (Lj cs 36 ds) m at_ md fk fa rl' e:=by
 have hz:36+ds.size≤cs.size:=by rw[hr.1,h.size];omega
 exact {
  size:=by rw[Q8 hz];exact h.size
  text:=by rw[Cs hz,if_pos (by omega)];exact h.text
  oat:=by rw[Cs hz,if_pos (by omega)];exact h.oat
  regs:=fun j hj=>by rw[Cs hz,if_neg (by omega),if_pos (by rw[hr.1];omega),show 36+j-36=j by omega];exact hr.2 j hj
  c63:=by rw[Cs hz,if_neg (by omega),if_neg (by rw[hr.1];omega)];exact h.c63
  c64:=by rw[Cs hz,if_neg (by omega),if_neg (by rw[hr.1];omega)];exact h.c64
  c65:=by rw[Cs hz,if_neg (by omega),if_neg (by rw[hr.1];omega)];exact h.c65
  edit:=by rw[Cs hz,if_neg (by omega),if_neg (by rw[hr.1];omega)];exact h.edit
  far:=fun B q d h34 g' hg'=>by
   rw[Cs hz,if_pos (by omega)]at h34
   obtain⟨_,v,h2,h3⟩:=h.far B q d h34 g' hg';refine⟨fun j hj v hv=>?_,v,by rw[Cs hz,if_neg (by omega),if_neg (by rw[hr.1];omega)];exact h2,h3⟩
   rw[Cs hz,if_neg (by omega),if_pos (by rw[hr.1];omega),show 36+j-36=j by omega]at hv
   exact hfr B q d h34 g' hg' j hj v hv }
theorem Mk.out' {n c d:Nat}{A B:Option Addr}{a k1 k2 k3 k4 k5:Int}{rs:Array Value}{l:List Int}(h:Mk w g cs A n c a rs rl k1 k2 k3 k4 k5 fk fa B d)(ho:Av w (g+1) B n d l):Do w (g+1) cs l a 0 fk fa rl [] where
 size:=h.size
 text:=⟨B,n,d,h.out,ho⟩
 oat:=h.oat
 regs:=h.oregs
 c63:=h.c63
 c64:=h.c64
 c65:=h.c65
 edit:=⟨_,h.c66,Dq.nil _ _⟩
 far:=fun B' q' d' h34 g' hg'=>by
  rw[h.out]at h34;injection h34 with h34;injection h34 with e1 e2 e3;subst e1;subst e2;subst e3;exact⟨fun j hj v hv=>h.far j hj v hv g' hg',_,h.c66,Dq.nil _ _⟩
end
structure Da (w0:World)(g:Nat)(cs0:Array Value)(w:World)(cs:Array Value)(m:List Int)(at_ md fk fa:Int)(rl:Nat→List Int)(e:List Fh):Prop where
 blk:An w g 185 cs
 out:Do w (g+1) cs m at_ md fk fa rl e
 same:∀k,k<34→cs[k]? = cs0[k]?
 grown:w0.grownBy w (some g)
section
variable {w0 w w':World} {g:Nat} {cs0 cs:Array Value} {m:List Int} {at_ md fk fa:Int} {rl:Nat→List Int} {e:List Fh}
theorem Da.ext (h:Da w0 g cs0 w cs m at_ md fk fa rl e)(he:Al w w'):Da w0 g cs0 w' cs m at_ md fk fa rl e:=
 ⟨h.blk.ext he,h.out.ext he,h.same,Co h.grown (Ev he _)⟩
theorem Da.cell (h:Da w0 g cs0 w cs m at_ md fk fa rl e){k:Nat}{v:Value}(hk:k<34)(hv:cs0[k]? = some v):w.cell? ⟨g,k,none⟩=some v:=by
 rw[h.blk.cell k,h.same k hk];exact hv
theorem Da.oat (h:Da w0 g cs0 w cs m at_ md fk fa rl e):w.cell? ⟨g,35,none⟩=some (.int .i64 at_):=(h.blk.cell 35).trans h.out.oat
theorem Da.mode (h:Da w0 g cs0 w cs m at_ md fk fa rl e):w.cell? ⟨g,65,none⟩=some (.int .i64 md):=(h.blk.cell 65).trans h.out.c65
theorem Da.text (h:Da w0 g cs0 w cs m at_ md fk fa rl e):∃B d,w.cell? ⟨g,34,none⟩=some (.slice B m.length d)∧Av w (g+1) B m.length d m:=by
 obtain⟨B,q,d,h1,h2⟩:=h.out.text;have hq:m.length=q:=h2.ints.len;rw[hq];exact⟨B,d,(h.blk.cell 34).trans h1,h2⟩
theorem Da.setAt (h:Da w0 g cs0 w cs m at_ md fk fa rl e)(x:Int):Da w0 g cs0 (w.setCell ⟨g,35,none⟩ (.int .i64 x)) (cs.setIfInBounds 35 (.int .i64 x)) m x md fk fa rl e:=
 ⟨h.blk.set_ 35 _,(h.out.grown (Eu w ⟨g,35,none⟩ _) (Bx g)).setAt x,fun k hk=>by rw[Bq (by omega)];exact h.same k hk,Co h.grown (Eu w ⟨g,35,none⟩ _)⟩
theorem Da.setMode (h:Da w0 g cs0 w cs m at_ md fk fa rl e)(x:Int):Da w0 g cs0 (w.setCell ⟨g,65,none⟩ (.int .i64 x)) (cs.setIfInBounds 65 (.int .i64 x)) m at_ x fk fa rl e:=
 ⟨h.blk.set_ 65 _,(h.out.grown (Eu w ⟨g,65,none⟩ _) (Bx g)).setMode x,fun k hk=>by rw[Bq (by omega)];exact h.same k hk,Co h.grown (Eu w ⟨g,65,none⟩ _)⟩
theorem Da.start {n c d:Nat}{A B:Option Addr}{a k1 k2 k3 k4 k5:Int}{rs:Array Value}{l:List Int}(hb:An w g 185 cs)(h:Mk w g cs A n c a rs rl k1 k2 k3 k4 k5 fk fa B d)(ho:Av w (g+1) B n d l):Da w g cs w cs l a 0 fk fa rl []:=
 ⟨hb,h.out' ho,fun _ _=>rfl,⟨rfl,rfl,rfl,Nat.le_refl _,fun _ _ _=>rfl⟩⟩
theorem Da.put (h:Da w0 g cs0 w cs m at_ md fk fa rl e){l x:List Int}(hp:Rv w g cs l x w'):∃cs' e',Da w0 g cs0 w' cs' x at_ md fk fa rl e'∧F3 l x e':=by
 obtain⟨hg,B,q,b,O,k,z,e',h1,h2,h3,h4,h5⟩:=hp;have hgw:=h.blk.lt;refine⟨_,e',⟨h1,(h.out.grown hg (Bx g)).setPut (Ay.lower h2 hgw) (h3.lower hgw) (fun g' hg'=>⟨fun j hj v hv hvg=>by
  obtain⟨v',hv',hr'⟩:=h.out.regs j hj;rw[hv']at hv;injection hv with hv;subst hv;have:=(hr'.blk g' hvg).2;have:=(Ay.blk h2 g' hg').1;omega,h5 g' hg'⟩),fun k hk=>?_,Co h.grown hg⟩,h4⟩
 rw[Bq (by omega),Bq (by omega)]
 exact h.same k hk
theorem Da.done (h:Da w0 g cs0 w cs m at_ md fk fa rl e){Ok:Prop}{Post:World→Array Value→Prop}(hp:Post w cs):Ch g w0 Ok Post (.returned (.int .i64 0)) w:=
 ⟨0,cs,rfl,h.grown,fun _=>rfl,fun _=>⟨h.blk,h.out.size,h.out.one,hp⟩⟩
theorem Da.fail (h:Da w0 g cs0 w cs m at_ md fk fa rl e){Ok:Prop}{Post:World→Array Value→Prop}{x:Int}(hx:x≠0)(ho:¬Ok):Ch g w0 Ok Post (.returned (.int .i64 x)) w:=
 ⟨x,cs,rfl,h.grown,fun h=>absurd h ho,fun h=>absurd h hx⟩
end
theorem Al.turned {v0 w w':World}{g:Nat}(h:Al v0 w)(hg:w.grownBy w' (some g))(hb:v0.heap.size≤g):Al v0 w':=
 ⟨hg.os.trans (Below.os h),hg.tape.trans (Below.tape h),hg.output.trans (Below.output h),Nat.le_trans h.hsize hg.size,fun k hk=>(hg.block k (Nat.lt_of_lt_of_le hk h.hsize) (fun e=>by injection e with e;omega)).trans (Below.block h k hk)⟩
structure Ep (v0 w:World)(g:Nat)(cs:Array Value)(A:Option Addr)(n c a:Nat)(rs:Array Value)(rl:Nat→List Int)(k1 k2 k3 k4 k5 fk fa:Int)(l:List Int):Prop where
 blk:An w g 185 cs
 doer:∃B d,Mk w g cs A n c (a:Int) rs rl k1 k2 k3 k4 k5 fk fa B d∧Av w (g+1) B n d l
 ext:Al v0 w
 base:v0.heap.size≤g
 regs:Ka v0 rs rl
 line:Bi v0 A n c l
 cap:A=none→c=0
 len:n≤200
 place:a≤n-1
 nums:∀x∈l,(Lit.int .i64 x).wf=true
 cnt:0≤k1∧k1≤999
section
variable {v0 w w':World} {g:Nat} {cs:Array Value} {A:Option Addr} {n c a:Nat} {rs:Array Value} {rl:Nat→List Int} {k1 k2 k3 k4 k5 fk fa:Int} {l:List Int}
theorem Ep.mid (h:Ep v0 w g cs A n c a rs rl k1 k2 k3 k4 k5 fk fa l):Da w g cs w cs l a 0 fk fa rl []:=
 let ⟨_,_,h1,h2⟩:=h.doer;Da.start h.blk h1 h2
theorem Ep.wext (h:Ep v0 w g cs A n c a rs rl k1 k2 k3 k4 k5 fk fa l)(he:Al w w'):Ep v0 w' g cs A n c a rs rl k1 k2 k3 k4 k5 fk fa l:=
 {
  h with
  blk:=h.blk.ext he
  doer:=let ⟨B,d,h1,h2⟩:=h.doer;⟨B,d,{ h1 with oregs:=fun j hj=>let ⟨v,h3,h4⟩:=h1.oregs j hj;⟨v,h3,h4.ext he⟩ },Ay.ext h2 he⟩
  ext:=h.ext.trans he }
theorem Ep.cells (h:Ep v0 w g cs A n c a rs rl k1 k2 k3 k4 k5 fk fa l):cs[0]? = some (.slice A n c)∧cs[1]? = some (.int .i64 (a:Int))∧(∀j,j<27→cs[2+j]? = rs[j]?)∧cs[29]? = some (.int .i64 k1)∧cs[30]? = some (.int .i64 k2)∧cs[31]? = some (.int .i64 k3)∧cs[32]? = some (.int .i64 k4)∧cs[33]? = some (.int .i64 k5):=
 let ⟨_,_,h1,_⟩:=h.doer;⟨h1.text,h1.at_,h1.regs,h1.c29,h1.c30,h1.c31,h1.c32,h1.c33⟩
end
def wO (rl:Nat→List Int)(k2:Int)(f t:Nat)(x:List Int):Prop:=f<t→∃i m,F6 k2=some (i,m)∧¬G8 rl i m x
def Q3 (rl:Nat→List Int)(k2:Int)(f t:Nat)(x:List Int)(rl':Nat→List Int):Prop:=(f=t→rl'=rl)∧(f<t→∃i m,F6 k2=some (i,m)∧¬G8 rl i m x∧rl'=Nx rl i m x)
def Kr (l:List Int)(a:Int)(rl:Nat→List Int)(k2 k3:Int)(f t:Nat)(whole:Bool)(m:List Int)(at_ md:Int)(rl':Nat→List Int)(e:List Fh):Prop:=
 (f=t→k3=99)∧Q3 rl k2 f t ((l.drop f).take (t-f)) rl'∧
 (
  (k3=121∧m=l∧md=0∧e=[]∧at_=(if whole=true then a else min (f:Int) a))∨
  (k3≠121∧m=l.take f++l.drop t∧F3 l m e∧((k3=99∧at_=f∧md=1)∨(k3≠99∧md=0∧at_=max 0 (min (f:Int) ((m.length:Int)-1))))))
def Uw (l:List Int)(rl:Nat→List Int)(k2 k3:Int)(f t:Nat):Prop:=(f=t→k3=99)∧wO rl k2 f t ((l.drop f).take (t-f))
def aX (g:Nat)(l:List Int)(a:Int)(rl:Nat→List Int)(k2 k3 fk fa:Int)(f t:Nat)(whole:Bool)(w:World)(cs:Array Value):Prop:=
 ∃m at_ md rl' e,Do w (g+1) cs m at_ md fk fa rl' e∧Kr l a rl k2 k3 f t whole m at_ md rl' e
theorem eN {w0 w:World}{g n c f t q d:Nat}{cs0 cs:Array Value}{m l x:List Int}{at_ md fk fa:Int}{e:List Fh}(h:Da w0 g cs0 w cs m at_ md fk fa rl e)(h0:cs0[0]? = some (.slice A n c))(hl:Bi w A n c l)(hx:Bi w T q d x)(hT:T=none→d=0)
 (hft:f≤t) (htn:t≤n) (hn:n≤200) (hm:q≤3000):
 Calls Tryz.prog 136 #[.pointer (some ⟨g,0,none⟩),.int .i64 (f:Int),.int .i64 (t:Int),.slice T q d] w fun en w'=>(∃u,en=.returned u)∧∃cs' e',Da w0 g cs0 w' cs' (l.take f++x++l.drop t) at_ md fk fa rl e'∧F3 l (l.take f++x++l.drop t) e':=by
 obtain⟨B,_,_,h34,_⟩:=h.out.text;obtain⟨v66,h66,_⟩:=h.out.edit;exact(Tu h.blk ((h.same 0 (by omega)).trans h0) h34 h66 hl hx hT hft htn hn hm).mono fun en w' ⟨h1,h2⟩=>⟨h1,h.put h2⟩
theorem nR {w0 w:World}{cs0 cs rs:Array Value}{m l:List Int}{at_ md fk fa k2:Int}{rl tR:Nat→List Int}{e:List Fh}(h:Da w0 g cs0 w cs m at_ md fk fa tR e)(h0:cs0[0]? = some (.slice A n c))(h30:cs0[30]? = some (.int .i64 k2))(hrs:∀j,j<27→cs0[2+j]? = rs[j]?)(hr:Ka w rs rl)(hl:Bi w A n c l)(hA:A=none→c=0)(hft:f≤t)(htn:t≤n)(hn:n≤200):
 Calls Tryz.prog 135 #[.pointer (some ⟨g,0,none⟩),.int .i64 (f:Int),.int .i64 (t:Int)] w fun en w'=>∃x,en=.returned (.int .i64 x)∧w.grownBy w' (some g)∧((∃i m,F6 k2=some (i,m)∧¬G8 rl i m ((l.drop f).take (t-f)))→x=0)∧(x=0→∃cs' rl',Da w0 g cs0 w' cs' m at_ md fk fa rl' e∧∃i m,F6 k2=some (i,m)∧¬G8 rl i m ((l.drop f).take (t-f))∧rl'=Nx rl i m ((l.drop f).take (t-f))):=by
 refine(rP h.blk h.out.size ((h.same 0 (by omega)).trans h0) ((h.same 30 (by omega)).trans h30) (fun j hj=>(h.same _ (by omega)).trans (hrs j hj)) hr hl hA hft htn hn).mono ?_
 rintro en w' ⟨x,h1,h2,h3,h4⟩;refine⟨x,h1,h2,h3,fun hx=>?_⟩
 obtain⟨ds,rl',hb,hR,hO⟩:=h4 hx;have hgw:=h.blk.lt;refine⟨_,rl',⟨hb,(h.out.grown h2 (Bx g)).setRegs (hR.lower hgw) (fun B q d h34 g' hg' j hj v hv hvg=>by
  obtain⟨v',hv',hr'⟩:=hR.2 j hj;rw[hv']at hv;injection hv with hv;subst hv;have:=(hr'.blk g' hvg).1;obtain⟨B',q',d',h4,h5⟩:=h.out.text;rw[h34]at h4;injection h4 with h4;injection h4 with e1 e2 e3;subst e1;subst e2;subst e3;have:=(Ay.blk h5 g' hg').2;omega),fun k hk=>?_,Co h.grown h2⟩,hO⟩
 rw[Cs (by rw[hR.1,h.out.size];decide),if_pos (by omega)]
 exact h.same k hk
theorem Pb {v0 w:World}{g n c f t a:Nat}{whole:Bool}(h:Ep v0 w g cs A n c a rs rl k1 k2 k3 k4 k5 fk fa l)(hft:f≤t)(htn:t≤n)(hk3:k3=100∨k3=99∨k3=121):
 Calls Tryz.prog 122 #[.pointer (some ⟨g,0,none⟩),.int .i64 (f:Int),.int .i64 (t:Int),.bool whole] w (Ch g w (Uw l rl k2 k3 f t) (aX g l a rl k2 k3 fk fa f t whole)):=by
 obtain⟨h0,h1,hrs,h29,h30,h31,h32,h33⟩:=h.cells;have HKp:Hid (∀wx,Al w wx→Calls Tryz.prog 135 #[.pointer (some ⟨g,0,none⟩),.int .i64 (f:Int),.int .i64 (t:Int)] wx fun en w'=>∃x,en=.returned (.int .i64 x)∧wx.grownBy w' (some g)∧((∃i m,F6 k2=some (i,m)∧¬G8 rl i m ((l.drop f).take (t-f)))→x=0)∧(x=0→∃cs' rl',Da w g cs w' cs' l a 0 fk fa rl' []∧∃i m,F6 k2=some (i,m)∧¬G8 rl i m ((l.drop f).take (t-f))∧rl'=Nx rl i m ((l.drop f).take (t-f)))):=A4 fun wx he=>
  nR (h.mid.ext he) h0 h30 hrs (h.regs.ext (h.ext.trans he)) (h.line.ext (h.ext.trans he)) h.cap hft htn h.len
 have HPt:Hid (∀wx csx m at_ md rlx e,Da w g cs wx csx m at_ md fk fa rlx e→Calls Tryz.prog 136 #[.pointer (some ⟨g,0,none⟩),.int .i64 (f:Int),.int .i64 (t:Int),.slice none 0 0] wx fun en w'=>(∃u,en=.returned u)∧∃cs' e',Da w g cs w' cs' (l.take f++l.drop t) at_ md fk fa rlx e'∧F3 l (l.take f++l.drop t) e'):=A4 (by
  intro wx csx m at_ md rlx e hm;have h:=eN hm h0 (h.line.ext (h.ext.turned hm.grown h.base)) (Av.ints (Av.nil wx 0)) (fun _=>rfl) hft htn h.len (by omega)
  rw[List.append_nil]at h;exact h)
 have HM:=A4 h.mid;have HC:Hid (cs[1]? = some (.int .i64 (a:Int))∧cs[31]? = some (.int .i64 k3)):=A4 ⟨h1,h31⟩;have HL:Hid (l.length=n∧n≤200):=A4 ⟨h.line.len,h.len⟩;have HN:Hid ((l.take f++l.drop t).length≤200):=A4 (by have:=HL.out;simp;omega)
 have x31:w.cell? ⟨g,31,none⟩=some (.int .i64 k3):=HM.out.cell (by omega) HC.out.2
 have hf1:f≤1000000:=by have:=h.len;omega
 obtain⟨M,hM⟩:∃M,l.take f++l.drop t=M:=⟨_,rfl⟩;rw[hM]at HPt HN;have HMm:=A4 hM;clear h h0 h1 hrs h29 h30 h31 h32 h33 hM;go_enter Tryz.func122,Tryz.ntmps122
 by_cases hfe:f=t
 case pos=>
  subst hfe;by_cases hk:k3=99
  case neg=>
   have hkb:(k3 !=99)=true:=by simp[hk]
   go_wp2_with fail
   go_ret
   exact HM.out.fail (by decide) (fun h=>hk (h.1 rfl))
  case pos=>
   subst hk;go_wp2_with fail
   refine(HPt.out _ _ _ _ _ _ _ HM.out).mono ?_
   rintro en w1 ⟨⟨u,rfl⟩,cs1,e1,hm1,hmk⟩;have HM1:=A4 hm1;have HMK:=A4 hmk;have y31:w1.cell? ⟨g,31,none⟩=some (.int .i64 99):=hm1.cell (by omega) HC.out.2
   have c65:=hm1.mode;have f65:=hm1.blk.frozen 65;have hm2:=hm1.setMode 0;obtain⟨B,d,c34,ho⟩:=hm2.text;have c35:=hm2.oat;have f35:=hm2.blk.frozen 35;clear ho;obtain⟨L,hL⟩:∃L,M.length=L:=⟨_,rfl⟩;have hL2:L≤200:=by rw[←hL];exact HN.out
   have HLL:=A4 hL;rw[hL]at c34;have HM2:=A4 hm2;clear hm1 hmk hm2 hL;go_wp2_with fail
   refine(U2 (f:Int) (L:Int) _ (by omega) (by omega)).mono ?_
   rintro en w2 ⟨rfl,rfl⟩;obtain⟨z,hz⟩:∃z:Int,max 0 (min (f:Int) ((L:Int)-1))=z:=⟨_,rfl⟩;rw[hz];have hm3:=HM2.out.setAt z;have z31:=hm3.cell (k:=31) (by omega) HC.out.2
   have d65:=hm3.mode;have g65:=hm3.blk.frozen 65;have hm4:=hm3.setMode 1;have d35:=hm4.oat;have g35:=hm4.blk.frozen 35;have HM5:=A4 (hm4.setAt (f:Int));have HZ:=A4 hz;clear hm3 hm4 hz HM1 HM2;go_wp2_with fail
   go_ret
   exact HM5.out.done ⟨_,_,_,_,_,HM5.out.out,fun _=>rfl,⟨fun _=>rfl,fun h=>absurd h (by omega)⟩,.inr ⟨by decide,HMm.out.symm,HMK.out,.inl ⟨rfl,rfl,rfl⟩⟩⟩
 case neg=>
  have hlt:f<t:=by omega
  have HT:=A4 hlt;have hx:((f:Int)==(t:Int))=false:=by simp;omega
  go_wp2_with fail
  refine(HKp.out _ (Al.refl w)).mono ?_
  rintro en w0 ⟨x,rfl,hg0,hok,hx0⟩;by_cases hxz:x=0
  case neg=>
   have HF:Hid (Ch g w (Uw l rl k2 k3 f t) (aX g l a rl k2 k3 fk fa f t whole) (.returned (.int .i64 x)) w0):=A4 ⟨x,cs,rfl,hg0,fun h=>hok (h.2 HT.out),fun h=>absurd h hxz⟩
   clear hok hx0 hg0;go_wp2_with fail
   go_ret
   exact HF.out
  subst hxz;obtain⟨cs0,tR,hm0,hrl⟩:=hx0 rfl;have HRL:Hid (Q3 rl k2 f t ((l.drop f).take (t-f)) tR):=A4 ⟨fun h=>absurd h hfe,fun _=>hrl⟩
  have HM0:=A4 hm0;have u31:w0.cell? ⟨g,31,none⟩=some (.int .i64 k3):=hm0.cell (by omega) HC.out.2
  have u1:w0.cell? ⟨g,1,none⟩=some (.int .i64 (a:Int)):=hm0.cell (by omega) HC.out.1
  have u35:=hm0.oat;have v35:=hm0.blk.frozen 35;clear hok hx0 hg0 hm0 hrl HM HKp x31;rcases hk3 with rfl|rfl|rfl
  ·have N0:=trivial;exact zI
  ·have N1:=trivial;exact zI
  ·cases whole
   ·have HM5:=A4 (HM0.out.setAt (min (f:Int) (a:Int)))
    go_wp2_with fail
    all_goals
     go_ret
     exact HM5.out.done ⟨_,_,_,_,_,HM5.out.out,fun h=>absurd h hfe,HRL.out,.inl ⟨rfl,rfl,rfl,rfl,rfl⟩⟩
   ·go_wp2_with fail
    go_ret
    exact HM0.out.done ⟨_,_,_,_,_,HM0.out.out,fun h=>absurd h hfe,HRL.out,.inl ⟨rfl,rfl,rfl,rfl,rfl⟩⟩
def Qu (v:Int):Option (Int×Int):=
 if v=120 then some (100,108)else if v=88 then some (100,104)else if v=115 then some (99,108)else if v=83 then some (99,99)else if v=67 then some (99,36)else if v=68 then some (100,36)else if v=89 then some (121,121)else none
theorem sW (w:World)(t t':TypeId)(cs cs':Array Value):An ((w.alloc (.cells cs t)).alloc (.cells cs' t')) (w.heap.size+1) t' cs':=by
 have:=An.new (w.alloc (.cells cs t)) t' cs'
 rwa[World.size_alloc]at this
theorem gF {k1 k2 k4 k5:Int}(w:World):Calls Tryz.prog 119 #[.agg #[.int .i64 k1,.int .i64 k2,.int .i64 0,.int .i64 k4,.int .i64 k5]] w fun e w'=>(∃o v b,e=.returned (.tuple #[.agg #[.int .i64 k1,.int .i64 k2,.int .i64 o,.int .i64 v,.int .i64 k5],.bool b])∧((b=true∧Qu k4=some (o,v))∨(b=false∧Qu k4=none∧o=0∧v=k4)))∧Al w w':=by
 go_enter Tryz.func119,Tryz.ntmps119
 go_wp2_with fail
 ·have hk:k4=120:=by simpa using ‹(k4==120)=true›
  subst hk;refine bodyPost_ret (v:=.tuple #[.agg #[.int .i64 k1,.int .i64 k2,.int .i64 100,.int .i64 108,.int .i64 k5],.bool true]) ?_ rfl ⟨⟨_,_,_,rfl,.inl ⟨rfl,by decide⟩⟩,(Al.alloc _ _).to_alloc _⟩
  exact I6
 ·have hk:k4=88:=by simpa using ‹(k4==88)=true›
  subst hk;refine bodyPost_ret (v:=.tuple #[.agg #[.int .i64 k1,.int .i64 k2,.int .i64 100,.int .i64 104,.int .i64 k5],.bool true]) ?_ rfl ⟨⟨_,_,_,rfl,.inl ⟨rfl,by decide⟩⟩,(Al.alloc _ _).to_alloc _⟩
  exact I6
 ·have hk:k4=115:=by simpa using ‹(k4==115)=true›
  subst hk;refine bodyPost_ret (v:=.tuple #[.agg #[.int .i64 k1,.int .i64 k2,.int .i64 99,.int .i64 108,.int .i64 k5],.bool true]) ?_ rfl ⟨⟨_,_,_,rfl,.inl ⟨rfl,by decide⟩⟩,(Al.alloc _ _).to_alloc _⟩
  exact I6
 ·have hk:k4=83:=by simpa using ‹(k4==83)=true›
  subst hk;refine bodyPost_ret (v:=.tuple #[.agg #[.int .i64 k1,.int .i64 k2,.int .i64 99,.int .i64 99,.int .i64 k5],.bool true]) ?_ rfl ⟨⟨_,_,_,rfl,.inl ⟨rfl,by decide⟩⟩,(Al.alloc _ _).to_alloc _⟩
  exact I6
 ·have hk:k4=67:=by simpa using ‹(k4==67)=true›
  subst hk;refine bodyPost_ret (v:=.tuple #[.agg #[.int .i64 k1,.int .i64 k2,.int .i64 99,.int .i64 36,.int .i64 k5],.bool true]) ?_ rfl ⟨⟨_,_,_,rfl,.inl ⟨rfl,by decide⟩⟩,(Al.alloc _ _).to_alloc _⟩
  exact I6
 ·have hk:k4=68:=by simpa using ‹(k4==68)=true›
  subst hk;refine bodyPost_ret (v:=.tuple #[.agg #[.int .i64 k1,.int .i64 k2,.int .i64 100,.int .i64 36,.int .i64 k5],.bool true]) ?_ rfl ⟨⟨_,_,_,rfl,.inl ⟨rfl,by decide⟩⟩,(Al.alloc _ _).to_alloc _⟩
  exact I6
 ·have hk:k4=89:=by simpa using ‹(k4==89)=true›
  subst hk;refine bodyPost_ret (v:=.tuple #[.agg #[.int .i64 k1,.int .i64 k2,.int .i64 121,.int .i64 121,.int .i64 k5],.bool true]) ?_ rfl ⟨⟨_,_,_,rfl,.inl ⟨rfl,by decide⟩⟩,(Al.alloc _ _).to_alloc _⟩
  exact I6
 ·refine bodyPost_ret (v:=.tuple #[.agg #[.int .i64 k1,.int .i64 k2,.int .i64 0,.int .i64 k4,.int .i64 k5],.bool false]) ?_ rfl ⟨⟨_,_,_,rfl,.inr ⟨rfl,?_,rfl,rfl⟩⟩,(Al.alloc _ _).to_alloc _⟩
  ·exact I6
  ·unfold Qu
   simp_all
def Gl (fk fa v arg:Int):Option (Int×Int×Int×Int):=
 if v=102∨v=70∨v=116∨v=84 then some (v,arg,v,arg)
 else if v=59 then(if fk=0 then none else some (fk,fa,fk,fa))
 else if v=44 then(if fk=0 then none else some (bits .xor .i64 fk 32,fa,fk,fa))
 else some (v,arg,fk,fa)
theorem Fw {fn:Func}{p q r:Tmp}{ty ty':TypeId}(h:fn.results=#[.cell p ty,.cell q ty',.tmp r])(tmps:Array Value)(w:World)(g g':Nat)(t t':TypeId)(cs cs':Array Value)(fr fr':Nat×Nat)(d d':TypeDesc)(v:Value)
 (hp:tmps.getD p undef=.pointer (some ⟨g,0,none⟩)) (hq:tmps.getD q undef=.pointer (some ⟨g',0,none⟩)) (hr:tmps.getD r undef=v) (hg:w.heap[g]? = some (.cells cs t fr)) (hg':w.heap[g']? = some (.cells cs' t' fr'))
 (hu:P.underlying ty=some d) (hd:(match d with|.struct _|.array _ _=>true|_=>false)=true) (hi:(P.info? ty).map (·.size)=some cs.size)
 (hu':P.underlying ty'=some d') (hd':(match d' with|.struct _|.array _ _=>true|_=>false)=true) (hi':(P.info? ty').map (·.size)=some cs'.size):
 (results fn tmps).run P w=.ok (.tuple #[.agg cs,.agg cs',v]) w:=by
 have hp':tmps[p]?.getD undef=.pointer (some ⟨g,0,none⟩):=by simpa using hp
 exact I33
theorem G9 {g t:Nat}{a b c:Value}(h:An w g t #[a,b,c]):w.cell? ⟨g,0,none⟩=some a∧w.cell? ⟨g,1,none⟩=some b∧w.cell? ⟨g,2,none⟩=some c:=⟨h.cell 0,h.cell 1,h.cell 2⟩
theorem Ej:(Tryz.prog.info? 202).map (·.size)=some 3:=by kernel_rfl
theorem Dg:(Tryz.prog.info? 38).map (·.size)=some 2:=by kernel_rfl
theorem aB (w:World)(fk fa k1 k2 k3 k4 k5:Int):∃W,W=(((((w.alloc (.cells #[.int .i64 fk,.int .i64 fa] 38)).alloc (.cells #[.int .i64 k1,.int .i64 k2,.int .i64 k3,.int .i64 k4,.int .i64 k5] 87)).alloc (.cells #[.int .i64 0,.int .i64 0,.int .i64 0] 202)).alloc (.cells #[.int .i64 0,.int .i64 0] 38)).alloc (.cells #[.int .i64 k4,.int .i64 k1,.int .i64 k5] 202))∧Al w W∧
 An W (w.heap.size) 38 #[.int .i64 fk,.int .i64 fa]∧An W (w.heap.size+1) 87 #[.int .i64 k1,.int .i64 k2,.int .i64 k3,.int .i64 k4,.int .i64 k5]∧An W (w.heap.size+1+1) 202 #[.int .i64 0,.int .i64 0,.int .i64 0]∧An W (w.heap.size+1+1+1) 38 #[.int .i64 0,.int .i64 0]∧An W (w.heap.size+1+1+1+1) 202 #[.int .i64 k4,.int .i64 k1,.int .i64 k5]:=by
 have h1:=An.new w 38 #[.int .i64 fk,.int .i64 fa];have x1:=Al.alloc w (.cells #[.int .i64 fk,.int .i64 fa] 38);have z1:(w.alloc (.cells #[.int .i64 fk,.int .i64 fa] 38)).heap.size=w.heap.size+1:=by simp
 generalize w.alloc (.cells #[.int .i64 fk,.int .i64 fa] 38)=W1 at*;have h2:=An.new W1 87 #[.int .i64 k1,.int .i64 k2,.int .i64 k3,.int .i64 k4,.int .i64 k5];have x2:=Al.alloc W1 (.cells #[.int .i64 k1,.int .i64 k2,.int .i64 k3,.int .i64 k4,.int .i64 k5] 87);rw[z1]at h2;have z2:(W1.alloc (.cells #[.int .i64 k1,.int .i64 k2,.int .i64 k3,.int .i64 k4,.int .i64 k5] 87)).heap.size=w.heap.size+1+1:=by simp[z1]
 generalize W1.alloc (.cells #[.int .i64 k1,.int .i64 k2,.int .i64 k3,.int .i64 k4,.int .i64 k5] 87)=W2 at*;have h3:=An.new W2 202 #[.int .i64 0,.int .i64 0,.int .i64 0];have x3:=Al.alloc W2 (.cells #[.int .i64 0,.int .i64 0,.int .i64 0] 202);rw[z2]at h3;have z3:(W2.alloc (.cells #[.int .i64 0,.int .i64 0,.int .i64 0] 202)).heap.size=w.heap.size+1+1+1:=by simp[z2]
 generalize W2.alloc (.cells #[.int .i64 0,.int .i64 0,.int .i64 0] 202)=W3 at*;have h4:=An.new W3 38 #[.int .i64 0,.int .i64 0];have x4:=Al.alloc W3 (.cells #[.int .i64 0,.int .i64 0] 38);rw[z3]at h4;have z4:(W3.alloc (.cells #[.int .i64 0,.int .i64 0] 38)).heap.size=w.heap.size+1+1+1+1:=by simp[z3]
 generalize W3.alloc (.cells #[.int .i64 0,.int .i64 0] 38)=W4 at*;have h5:=An.new W4 202 #[.int .i64 k4,.int .i64 k1,.int .i64 k5];have x5:=Al.alloc W4 (.cells #[.int .i64 k4,.int .i64 k1,.int .i64 k5] 202);exact I46
theorem Lt (w:World):Calls Tryz.prog 127 #[.agg #[.int .i64 fk,.int .i64 fa],.agg #[.int .i64 k1,.int .i64 k2,.int .i64 k3,.int .i64 k4,.int .i64 k5]] w fun e w'=>
 (∃mk ma zk za er:Int,e=.returned (.tuple #[.agg #[.int .i64 mk,.int .i64 k1,.int .i64 ma],.agg #[.int .i64 zk,.int .i64 za],.int .i64 er])∧((er=0∧Gl fk fa k4 k5=some (mk,ma,zk,za))∨(er=5∧Gl fk fa k4 k5=none)))∧Al w w':=by
 obtain⟨W0,hW,hx,hb2,hb3,hb4,hb5,hb7⟩:=aB w fk fa k1 k2 k3 k4 k5;have HX:=A4 hx;have B2:=A4 hb2;have B3:=A4 hb3;have B4:=A4 hb4;have B5:=A4 hb5;have B7:=A4 hb7;have HW:=A4 hW;clear hx hb2 hb3 hb4 hb5 hb7 hW;go_enter Tryz.func127,Tryz.ntmps127
 go_upto_region 2 with fail
 have hw:=HW.out;change Code.wp _ _ _ _ (((((w.alloc (.cells #[.int .i64 fk,.int .i64 fa] 38)).alloc (.cells #[.int .i64 k1,.int .i64 k2,.int .i64 k3,.int .i64 k4,.int .i64 k5] 87)).alloc (.cells #[.int .i64 0,.int .i64 0,.int .i64 0] 202)).alloc (.cells #[.int .i64 0,.int .i64 0] 38)).alloc (.cells #[.int .i64 k4,.int .i64 k1,.int .i64 k5] 202));rw[←hw];clear hw HW;obtain⟨x0,x1⟩:=Ef B2.out;obtain⟨y0,y1,y2,y3,y4⟩:=Ta B3.out;obtain⟨z0,z1,z2⟩:=G9 B7.out;go_wp2_with fail
 ·have N0:=trivial;exact K3
 ·have N1:=trivial;exact K3
 ·have N2:=trivial;exact K3
 ·have N3:=trivial;exact K3
 ·have N0:=trivial;exact K5
 ·have N0:=trivial;exact K1
 ·have N1:=trivial;exact K5
 ·have N1:=trivial;exact K1
 ·have N2:=trivial;exact K5
theorem jK {a:Int}(w:World)(h:¬(n≤200∧0≤a∧a≤max 0 ((n:Int)-1)))(hn:n≤maxLen):
 Calls Tryz.prog 110 #[.agg #[.slice A n c,.int .i64 a]] w fun e w'=>∃er,er≠0∧e=.returned (.int .i64 er)∧Al w w':=by
 have hx:=A4 (Al.alloc w (.cells #[.slice A n c,.int .i64 a] 34));unfold maxLen at hn;have hwr:IntKind.i64.wrap ((n:Int)-1)=(n:Int)-1:=IntWalk.i64_in _ (by omega)
 go_enter Tryz.func110,Tryz.ntmps110
 go_wp2_with fail
 all_goals first
  |(go_ret;exact⟨2,by decide,rfl,hx.out⟩)
  |(go_ret;exact⟨1,by decide,rfl,hx.out⟩)
  |(exfalso;omega)
theorem wB {a fk fa k1 k2 k3 k4 k5:Int}{Ok:Prop}{Post:World→Array Value→Prop}(hnm:n≤maxLen)(h:¬(n≤200∧0≤a∧a≤max 0 ((n:Int)-1))∨¬(0≤k1∧k1≤999))(hno:¬Ok):
 Calls Tryz.prog 91 #[.agg #[.slice A n c,.int .i64 a],.agg rs,.agg #[.int .i64 fk,.int .i64 fa],.agg #[.int .i64 k1,.int .i64 k2,.int .i64 k3,.int .i64 k4,.int .i64 k5]] w (kU w Ok Post):=by
 have HC:Hid (∀w,Calls Tryz.prog 110 #[.agg #[.slice A n c,.int .i64 a]] w fun e w'=>∃er,(er=0→¬(0≤k1∧k1≤999))∧e=.returned (.int .i64 er)∧Al w w'):=A4 fun w=>by
  by_cases hc:n≤200∧0≤a∧a≤max 0 ((n:Int)-1)
  ·exact(Un w hc.1 hc.2.1 hc.2.2).mono fun e w' ⟨h1,h2⟩=>⟨0,fun _=>h.resolve_left (fun hh=>hh hc),h1,h2⟩
  ·exact(jK w hc hnm).mono fun e w' ⟨er,h1,h2,h3⟩=>⟨er,fun hh=>absurd hh h1,h2,h3⟩
 have HNo:=A4 hno;obtain⟨w0,hw0,hx0,hb0,hb1,hb2,hb3,hb4⟩:=Ze w A n c a fk fa k1 k2 k3 k4 k5 rs;have HX:=A4 hx0;have B0:=A4 hb0;have B3:=A4 hb3;have B4:=A4 hb4;have HW:=A4 hw0;clear hx0 hb0 hb1 hb2 hb3 hb4 hw0 h hno hnm;go_enter Tryz.func91,Tryz.ntmps91
 go_upto_region 1 with fail
 have hw:=HW.out;unfold Fi at hw;change Code.wp _ _ _ _ (((((w.alloc (.cells #[.slice A n c,.int .i64 a] 34)).alloc (.cells rs 40)).alloc (.cells #[.int .i64 fk,.int .i64 fa] 38)).alloc (.cells #[.int .i64 k1,.int .i64 k2,.int .i64 k3,.int .i64 k4,.int .i64 k5] 87)).alloc (.cells Fi 161));unfold Fi;rw[←hw];clear hw HW;obtain⟨x0,x1⟩:=Ef B0.out;go_wp2_with fail
 refine(HC.out _).mono ?_
 rintro e w1 ⟨er,her,rfl,he1⟩;have C3:=A4 (B3.out.ext he1);have C4:=A4 (B4.out.ext he1);have CX:=A4 (HX.out.trans he1);have HER:=A4 her;clear x0 x1 B0 B3 B4 HX he1 HC her;by_cases h0:er=0
 ·subst h0
  have hk:=HER.out rfl;obtain⟨y0,y1,y2,y3,y4⟩:=Ta C3.out;have hor:k1<0∨999<k1:=by omega
  clear HER hk;go_wp2_with (refine wpList_store_row rfl 161 (.tmp 8) _ rfl (w.heap.size+1+1+1+1) Fi rfl rfl 161 Fi C4.out (Ge rfl) rfl Qa ?_)
  all_goals first
   |(exfalso;omega)
   |(
    have hres:=C4.out.setRow Fi;refine bodyPost_ret (v:=.tuple #[.agg Fi,.int .i64 1]) ?_ rfl ⟨Al.setRow CX.out (by omega) _,.inl ⟨HNo.out,1,by decide,rfl⟩⟩
    exact Dx rfl _ _ (w.heap.size+1+1+1+1) 161 _ _ _ _ rfl rfl hres Tryz.underlying161 rfl (Ge rfl))
 ·clear HER
  go_wp2_with (refine wpList_store_row rfl 161 (.tmp 8) _ rfl (w.heap.size+1+1+1+1) Fi rfl rfl 161 Fi C4.out (Ge rfl) rfl Qa ?_)
  have hres:=C4.out.setRow Fi;refine bodyPost_ret (v:=.tuple #[.agg Fi,.int .i64 er]) ?_ rfl ⟨Al.setRow CX.out (by omega) _,.inl ⟨HNo.out,er,h0,rfl⟩⟩
  exact Dx rfl _ _ (w.heap.size+1+1+1+1) 161 _ _ _ _ rfl rfl hres Tryz.underlying161 rfl (Ge rfl)
theorem C6 {ops:Array Oper}{o:Oper}{a:Act}{K:Act→World→Prop}{Q:Exit→Act→World→Prop}{E:Prop}{ars:Array Operand}{tys:Array TypeId}(hw:Bm o (yielded ops a.tmps)=true)
 (f:FuncId) (args:Array Value) (ho:o.op=.call { callee:=.value (.func f),args:=ars,argTypes:=tys }) (hrun:(execOp a.eval o).run P w=.ok (.enter f args) w) (R:Value→World→Prop)
 (hc:Calls P f args w fun e w'=>∃v,e=.returned v∧R v w') (h:∀v w',R v w'→K (a.put o.dst v) w'):if Bm o (yielded ops a.tmps)=true then Oper.wp P o a w K Q else E:=by
 rw[if_pos hw];exact I16
def Pq (l:List Int)(a k:Nat)(x:Int):List Int:=l.take a++List.replicate k x++l.drop (a+k)
theorem wK {g bx:Nat}{k5:Int}(hb:An w g 185 cs)(h33:cs[33]? = some (.int .i64 k5))(hbx:An w bx 183 #[.pointer (some ⟨g,0,none⟩)])(x:Int):
 Calls Tryz.prog 134 #[.int .i64 x,.pointer (some ⟨bx,0,none⟩)] w fun e w'=>e=.returned (.int .i64 k5)∧w=w':=by
 have x33:w.cell? ⟨g,33,none⟩=some (.int .i64 k5):=(hb.cell 33).trans h33;have z0:w.cell? ⟨bx,0,none⟩=some (.pointer (some ⟨g,0,none⟩)):=hbx.cell 0;clear hb h33 hbx;go_enter Tryz.func134,Tryz.ntmps134
 go_wp2_with fail
 go_ret
 exact⟨rfl,rfl⟩
theorem dN {g n c a k bx:Nat}{k5:Int}(hb:An w g 185 cs)(h0:cs[0]? = some (.slice A n c))(h1:cs[1]? = some (.int .i64 (a:Int)))(h34:cs[34]? = some v34)(h66:cs[66]? = some v66)(h33:cs[33]? = some (.int .i64 k5))(hbx:An w bx 183 #[.pointer (some ⟨g,0,none⟩)])(hl:Bi w A n c l)(hn:n≤200)(hak:a+k≤n):
 Calls Tryz.prog 131 #[.pointer (some ⟨g,0,none⟩),.int .i64 (k:Int),.func (.func 134) #[] #[.pointer (some ⟨bx,0,none⟩)]] w fun e w'=>(∃u,e=.returned u)∧Rv w g cs l (Pq l a k k5) w':=by
 have N1:=trivial;exact zR
end
