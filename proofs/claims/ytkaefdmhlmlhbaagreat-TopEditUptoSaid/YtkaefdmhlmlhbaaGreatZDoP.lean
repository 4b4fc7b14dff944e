/-
  Part ZDoP.
-/
import Derived.Test.YtkaefdmhlmlhbaaGreatZConc
import Derived.Test.YtkaefdmhlmlhbaaGreatZBtwM
import Derived.Test.YtkaefdmhlmlhbaaGreatZDoA
import Derived.IntWalk
set_option maxRecDepth 100000
set_option maxHeartbeats 16000000
set_option linter.unusedVariables false
set_option linter.unusedSimpArgs false
namespace Go.Proofs.YtkaefdmhlmlhbaaGreat
open Go.RowKit
open Act renaming put→Ap
open AllReadyH renaming cons→Ai,nil→Am
open _root_.List renaming getElem_cons_succ→Ab,getElem_cons_zero→Aa,getElem_toArray→Ac,setIfInBounds_toArray→A7,set_cons_succ→Ae,set_cons_zero→Ad
open _root_.Nat renaming le_refl→Aj
open Value renaming slice→Ak
open _root_.And renaming intro→Bb
section
variable {cs:Array Value}{w:World}{A:Option Addr}{rl:Nat→List Int}{l:List Int}{v34 v66:Value}
theorem mS {l m:List Int}{A B:Option Addr}{n c q d:Nat}(hl:Bl w A n c l)(hm:Bl w B q d m)(hB:B=none→d=0)(hn:n≤4096)(hq:q≤4096):
 Calls Tryz.prog 149 #[.slice A n c,.slice B q d] w fun e' w'=>∃O k z e,e'=.returned (.tuple #[.slice O k z,.int .i64 0])∧E6 w' w.heap.size (.slice O k z) e∧(∃k j,nF l m k j∧((k=n∧k=q∧e=[])∨(¬(k=n∧k=q)∧e=[Qa l m k j])))∧An w w':=
 (cJ hl hm hB hn hq).mono fun e' w' ⟨⟨k,j,h1,h2⟩,h3⟩=>by
  rcases h2 with⟨h4,h5,rfl⟩|⟨h4,g,rfl,h5⟩
  ·exact⟨none,0,0,[],rfl,E6.nil _ _,⟨k,j,h1,.inl ⟨h4,h5,rfl⟩⟩,h3⟩
  ·exact⟨_,_,_,_,rfl,h5,⟨k,j,h1,.inr ⟨h4,rfl⟩⟩,h3⟩
def Fq (l m:List Int)(e:List Ga):Prop:=∃k j,nF l m k j∧((k=l.length∧k=m.length∧e=[])∨(¬(k=l.length∧k=m.length)∧e=[Qa l m k j]))
def Td (w:World)(g:Nat)(cs:Array Value)(l m:List Int)(w':World):Prop:=
 w.grownBy w' (some g)∧∃B q b O k z e,Aq w' g 118 ((cs.setIfInBounds 66 (.slice O k z)).setIfInBounds 34 (.slice B q b))∧Av w' w.heap.size B q b m∧E6 w' w.heap.size (.slice O k z) e∧Fq l m e∧∀g',(Ak B q b).ownBlock=some g'→E6 w' (g'+1) (.slice O k z) e
theorem V4 {g n c f t m d:Nat}{A T:Option Addr}{l x:List Int}(hb:Aq w g 118 cs)(h0:cs[0]? = some (.slice A n c))(h34:cs[34]? = some v34)(h66:cs[66]? = some v66)(hl:Bl w A n c l)(hx:Bl w T m d x)(hT:T=none→d=0)
 (hft:f≤t) (htn:t≤n) (hn:n≤200) (hm:m≤3000):
 Calls Tryz.prog 116 #[.pointer (some ⟨g,0,none⟩),.int .i64 (f:Int),.int .i64 (t:Int),.slice T m d] w fun e w'=>(∃u,e=.returned u)∧Td w g cs l (l.take f++x++l.drop t) w':=by
 have hln:=hl.len;have hxl:=hx.len;have hnc:=hl.ncap;have hcm:=hl.nmax;unfold maxLen at hcm;obtain⟨T2,hT2⟩:∃T2,(if c=t then A else Option.map (fun x=>x.add t) A)=T2:=⟨_,rfl⟩
 have HC:Hid (Calls Tryz.prog 134 #[.slice (some ⟨w.heap.size,0,none⟩) 3 3] (w.drew.alloc (.cells #[.slice A f c,.slice T m d,.slice T2 (n-t) (c-t)] 25)) fun e w'=>∃B q b,e=.returned (.slice B q b)∧Av w' w.heap.size B q b (l.take f++x++l.drop t)∧An w w'):=A6 (by
  have he:An w (w.drew.alloc (.cells #[.slice A f c,.slice T m d,.slice T2 (n-t) (c-t)] 25)):=(An.drew w).to_alloc _;have hl':=hl.ext he;have hS:Rd (w.drew.alloc (.cells #[.slice A f c,.slice T m d,.slice T2 (n-t) (c-t)] 25)) 1 (some ⟨w.heap.size,0,none⟩) 3 3 [.slice A f c,.slice T m d,.slice T2 (n-t) (c-t)]:=Rd.litAtConc w.drew 25 _ rfl rfl (by omega)
  have h1:=Y9 hS (Q1.three (hl'.front (k:=f) (by omega)) (hx.ext he) (by have h:=hl'.cut htn (Aj n);rw[hT2]at h;exact h)) rfl (by
   simp;omega)
  refine h1.mono fun e w' ⟨B,q,b,h2,h3,h4⟩=>⟨B,q,b,h2,?_,he.trans h4⟩
  have:(l.take f::x::[(l.drop t).take (n-t)]).flatten=l.take f++x++l.drop t:=by
   have hh:(l.drop t).take (n-t)=l.drop t:=List.take_of_length_le (by rw[List.length_drop,hln];exact Aj _)
   rw[hh];simp
  rw[←this];exact Bd.lower h3 he.hsize)
 have x0:w.cell? ⟨g,0,none⟩=some (.slice A n c):=(hb.cell 0).trans h0;have hgw:=hb.lt;have HB:=A6 hb;have HL:=A6 hl;have H34:=A6 h34;have H66:=A6 h66;have HMl:Hid ((l.take f++x++l.drop t).length≤4096):=A6 (by simp;omega)
 have Hln:=A6 hln;have hfc:f≤c:=by omega
 have htc:t≤c:=by omega
 have hfn:f≤n:=by omega
 clear hb h0 h34 h66 hl hx hT hln hxl hm;go_enter Tryz.func116,Tryz.ntmps116
 go_upto_region 0 with fail
 refine wp_region_held_drew (S:=fun w'=>w'.cell? ⟨g,0,none⟩=some (.slice A n c)) (by kernel_rfl) x0 (fun hHeld=>?_)
 refine Fs (i:=0) (v:=(.pointer (some ⟨g,0,none⟩))) rfl (fun w hSw=>by have hSw:w.cell? ⟨g,0,none⟩=some (.slice A n c):=hSw;go_simp) hHeld ?_
 refine Fs (i:=1) (v:=(.pointer (some ⟨g,0,none⟩))) rfl (fun w hSw=>by have hSw:w.cell? ⟨g,0,none⟩=some (.slice A n c):=hSw;go_simp) hHeld ?_
 refine Fs (i:=2) (v:=(.pointer (some ⟨g,0,none⟩))) rfl (fun w hSw=>by have hSw:w.cell? ⟨g,0,none⟩=some (.slice A n c):=hSw;go_simp) hHeld ?_
 refine Fs (i:=3) (v:=(.pointer (some ⟨g,0,none⟩))) rfl (fun w hSw=>by have hSw:w.cell? ⟨g,0,none⟩=some (.slice A n c):=hSw;go_simp) hHeld ?_
 refine Fs (i:=4) (v:=(.slice A n c)) rfl (fun w hSw=>by have hSw:w.cell? ⟨g,0,none⟩=some (.slice A n c):=hSw;go_simp) hHeld ?_
 refine Fs (i:=5) (v:=(.int .i64 (f:Int))) rfl (fun w hSw=>by have hSw:w.cell? ⟨g,0,none⟩=some (.slice A n c):=hSw;go_simp) hHeld ?_
 refine Fs (i:=6) (v:=(.slice A f c)) rfl (fun w hSw=>by have hSw:w.cell? ⟨g,0,none⟩=some (.slice A n c):=hSw;go_simp) hHeld ?_
 refine Fs (i:=7) (v:=(.slice T m d)) rfl (fun w hSw=>by have hSw:w.cell? ⟨g,0,none⟩=some (.slice A n c):=hSw;go_simp) hHeld ?_
 refine Fs (i:=8) (v:=(.pointer (some ⟨g,0,none⟩))) rfl (fun w hSw=>by have hSw:w.cell? ⟨g,0,none⟩=some (.slice A n c):=hSw;go_simp) hHeld ?_
 refine Fs (i:=9) (v:=(.pointer (some ⟨g,0,none⟩))) rfl (fun w hSw=>by have hSw:w.cell? ⟨g,0,none⟩=some (.slice A n c):=hSw;go_simp) hHeld ?_
 refine Fs (i:=10) (v:=(.pointer (some ⟨g,0,none⟩))) rfl (fun w hSw=>by have hSw:w.cell? ⟨g,0,none⟩=some (.slice A n c):=hSw;go_simp) hHeld ?_
 refine Fs (i:=11) (v:=(.pointer (some ⟨g,0,none⟩))) rfl (fun w hSw=>by have hSw:w.cell? ⟨g,0,none⟩=some (.slice A n c):=hSw;go_simp) hHeld ?_
 refine Fs (i:=12) (v:=(.slice A n c)) rfl (fun w hSw=>by have hSw:w.cell? ⟨g,0,none⟩=some (.slice A n c):=hSw;go_simp) hHeld ?_
 refine Fs (i:=13) (v:=(.int .i64 (t:Int))) rfl (fun w hSw=>by have hSw:w.cell? ⟨g,0,none⟩=some (.slice A n c):=hSw;go_simp) hHeld ?_
 refine Fs (i:=14) (v:=(.slice T2 (n-t) (c-t))) rfl (fun w hSw=>by have hSw:w.cell? ⟨g,0,none⟩=some (.slice A n c):=hSw;go_simp) hHeld ?_
 refine wpAnyH_ready (rs:=[15]) (by kernel_rfl) (by simp) ?_
 refine Ai rfl (fun K hK=>?_) Am
 go_simp
 refine hK.out _ _ ((An.alloc w.drew _).cell x0) (fun hHeld2=>?_)
 clear hK K hHeld
 try simp only[Ac,Aa,Ab,Ap,A7,Ad,Ae]
 refine wpAnyH_ready (rs:=[16]) (by kernel_rfl) (by simp) ?_
 refine Ai rfl (fun K hK=>?_) Am
 refine By rfl 134 #[.slice (some ⟨w.heap.size,0,none⟩) 3 3] rfl (by kernel_rfl) (fun v w'=>∃B q b,v=.slice B q b∧Av w' w.heap.size B q b (l.take f++x++l.drop t)∧An w w') (HC.out.mono fun e w' ⟨B,q,b,h1,h2,h3⟩=>⟨_,h1,B,q,b,rfl,h2,h3⟩) ?_
 rintro v w3 ⟨B,q,b,rfl,hO3,hx3⟩;refine hK.out _ _ (hx3.cell x0) (fun hHeld3=>?_)
 clear hK K hHeld2 hT2
 try simp only[Ac,Aa,Ab,Ap,A7,Ad,Ae]
 refine Fs (i:=17) (v:=(.slice B q b)) rfl (fun w hSw=>by have hSw:w.cell? ⟨g,0,none⟩=some (.slice A n c):=hSw;go_simp) hHeld3 ?_
 refine wpAnyH_done (by kernel_rfl) ?_ _
 obtain⟨M,hM⟩:∃M,l.take f++x++l.drop t=M:=⟨_,rfl⟩;rw[hM]at hO3 HMl;have HMm:=A6 hM;have hql:=hO3.ints.len;have HBe:=A6 (mS (HL.out.ext hx3) hO3.ints (Bd.nocap hO3) (by omega) (by have:=HMl.out;omega))
 have HO3:=A6 hO3;have HX3:=A6 hx3;have HQl:=A6 hql;clear hM hO3 hx3 hql HC x0;go_wp2_with fail
 refine HBe.out.mono ?_
 rintro e' w4 ⟨O,k,z,ed,rfl,hed,hmk,hx4⟩;have hb4:=(HB.out.ext HX3.out).ext hx4;have c66:w4.cell? ⟨g,66,none⟩=some v66:=(hb4.cell 66).trans H66.out;have f66:=hb4.frozen 66;have hb5:=hb4.set_ 66 (.slice O k z);have c34:(w4.setCell ⟨g,66,none⟩ (.slice O k z)).cell? ⟨g,34,none⟩=some v34:=by
  rw[hb5.cell 34,Array.getElem?_setIfInBounds_ne (by omega)];exact H34.out
 have f34:=hb5.frozen 34;have HB6:=A6 (hb5.set_ 34 (.slice B q b));have HED:=A6 ((E6.lower hed HX3.out.hsize).kept (Fj w4 ⟨g,66,none⟩ (.slice O k z)) (fun k e=>by injection e with e;have e:g=k:=e;omega) |>.kept (Fj _ ⟨g,34,none⟩ (.slice B q b)) (fun k e=>by injection e with e;have e:g=k:=e;omega))
 have HOW:=A6 (Bd.setCell (Bd.setCell (Bd.ext HO3.out hx4) (p:=⟨g,66,none⟩) hgw (.slice O k z)) (p:=⟨g,34,none⟩) hgw (.slice B q b));have HGR:=A6 (Cx (Cx (Fk (HX3.out.trans hx4) (some g)) (Fj w4 ⟨g,66,none⟩ (.slice O k z))) (Fj _ ⟨g,34,none⟩ (.slice B q b)));have HMK:Hid (Fq l M ed):=A6 (by
  obtain⟨k',j',h1,h2⟩:=hmk;refine⟨k',j',h1,?_⟩
  rw[Hln.out,HQl.out];exact h2)
 have HFr:Hid (∀g',(Ak B q b).ownBlock=some g'→E6 ((w4.setCell ⟨g,66,none⟩ (.slice O k z)).setCell ⟨g,34,none⟩ (.slice B q b)) (g'+1) (.slice O k z) ed):=A6 (fun g' hg'=>by
  obtain⟨h1,h2⟩:=Bd.blk HO3.out g' hg';exact((E6.lower hed h2).kept (Fj w4 ⟨g,66,none⟩ (.slice O k z)) (fun k e=>by injection e with e;have e:g=k:=e;omega)).kept (Fj _ ⟨g,34,none⟩ (.slice B q b)) (fun k e=>by injection e with e;have e:g=k:=e;omega))
 clear hed hmk hx4 hb4 hb5 HBe HB HL;go_wp2_with fail
 go_end0
 exact⟨⟨_,rfl⟩,HGR.out,B,q,b,O,k,z,ed,HB6.out,HMm.out▸HOW.out,HED.out,HMm.out▸HMK.out,HFr.out⟩
theorem J0 {P:Program}{o:Oper}{a:Act}(hgd:o.guard=none)(ty:TypeId)(x:Operand)(ho:o.op=.load ty x)(g off:Nat)(hx:a.eval x=.pointer (some ⟨g,off,none⟩))(t:TypeId)(cs vs:Array Value)(fr:Nat×Nat)(d:TypeDesc)(hg:w.heap[g]? = some (.cells cs t fr))(hv:∀j v,vs[j]? = some v→cs[off+j]? = some v)
 (hu:P.underlying ty=some d) (hd:(match d with|.struct _|.array _ _=>true|_=>false)=true) (hi:(P.info? ty).map (·.size)=some vs.size):(execOp a.eval o).run P w=.ok (.value (.agg vs)) w:=by
 unfold execOp;simp only[ho,hx,Instr.loadAt,Instr.sureAddr,Sem.run_bind,Sem.run_pure,Result.andThen_ok,Jg w g off t ty cs vs fr d hg hv hu hd hi]
theorem Qh {cs vs:Array Value}(h:vs.size=cs.size):Mm cs 0 vs=vs:=by
 unfold Mm;rw[List.drop_of_length_le (by simp;omega)]
 simp
def Um (rl:Nat→List Int)(k:Int)(text:List Int)(x:Int)(rs':Nat→List Int):Prop:=
 (x≠0∧¬ ∃i m,Fu k=some (i,m)∧¬Gw rl i m text)∨(x=0∧∃i m,Fu k=some (i,m)∧¬Gw rl i m text∧rs'=Kv rl i m text)
theorem uL {k:Int}{n c:Nat}{text:List Int}(hr:Kn w cs rl)(ht:Bl w A n c text)(hA:A=none→c=0):
 Calls Tryz.prog 148 #[.agg cs,.int .i64 k,.slice A n c] w fun e w'=>∃ds x rs',e=.returned (.tuple #[.agg ds,.int .i64 x])∧En w' w.heap.size ds rs'∧Um rl k text x rs'∧An w w':=by
 cases h:Fu k with
 |none=>exact(uK h).mono fun e w' ⟨h1,h2⟩=>⟨Ca,9,_,h1,Vq _ _,.inl ⟨by decide,fun⟨i,m,h9,_⟩=>by rw[h]at h9;cases h9⟩,h2⟩
 |some p=>
  obtain⟨i,m⟩:=p;by_cases hb:Gw rl i m text
  ·exact(kK hr ht h hb).mono fun e w' ⟨h1,h2⟩=>⟨Ca,2,_,h1,Vq _ _,.inl ⟨by decide,fun⟨i',m',h9,h8⟩=>by rw[h]at h9;injection h9 with h9;injection h9 with h9 h7;subst h9;subst h7;exact h8 hb⟩,h2⟩
  ·exact(zB hr ht hA h hb).mono fun e w' ⟨ds,h1,h2,h3⟩=>⟨ds,0,_,h1,h2.1,.inr ⟨rfl,i,m,h,hb,rfl⟩,h3⟩
def J1f (w:World)(g:Nat)(cs:Array Value)(rl:Nat→List Int)(k:Int)(text:List Int)(e:Ending)(w':World):Prop:=
 ∃x,e=.returned (.int .i64 x)∧w.grownBy w' (some g)∧((∃i m,Fu k=some (i,m)∧¬Gw rl i m text)→x=0)∧(x=0→∃ds rs',Aq w' g 118 (Mm cs 36 ds)∧En w' w.heap.size ds rs'∧∃i m,Fu k=some (i,m)∧¬Gw rl i m text∧rs'=Kv rl i m text)
theorem vM {g n c f t:Nat}{cs rs:Array Value}{k2:Int}(hb:Aq w g 118 cs)(hz:cs.size=67)(h0:cs[0]? = some (.slice A n c))(h30:cs[30]? = some (.int .i64 k2))(hrs:∀j,j<27→cs[2+j]? = rs[j]?)(hr:Kn w rs rl)(hl:Bl w A n c l)(hA:A=none→c=0)(hft:f≤t)(htn:t≤n)(hn:n≤200):
 Calls Tryz.prog 115 #[.pointer (some ⟨g,0,none⟩),.int .i64 (f:Int),.int .i64 (t:Int)] w (J1f w g cs rl k2 ((l.drop f).take (t-f))):=by
 have hnc:=hl.ncap;have hcm:=hl.nmax;unfold maxLen at hcm;have x0:w.cell? ⟨g,0,none⟩=some (.slice A n c):=(hb.cell 0).trans h0;have x30:w.cell? ⟨g,30,none⟩=some (.int .i64 k2):=(hb.cell 30).trans h30;have hgw:=hb.lt;have HB:=A6 hb;have HZ:=A6 hz;have HRs:=A6 hr.1;have HRv:Hid (∀j v,rs[j]? = some v→cs[2+j]? = some v):=A6 (fun j v hj=>by
  have hlt:=(Array.getElem?_eq_some_iff.1 hj).1;rw[hr.1]at hlt;rw[hrs j hlt];exact hj)
 obtain⟨T2,hT2⟩:∃T2,(if c=f then A else Option.map (fun x=>x.add f) A)=T2:=⟨_,rfl⟩
 have HP:Hid (∀wx,An w wx→Calls Tryz.prog 148 #[.agg rs,.int .i64 k2,.slice T2 (t-f) (c-f)] wx fun e w'=>∃ds x rs',e=.returned (.tuple #[.agg ds,.int .i64 x])∧En w' wx.heap.size ds rs'∧Um rl k2 ((l.drop f).take (t-f)) x rs'∧An wx w'):=A6 fun wx he=>by
  have h:=(hl.ext he).cut hft htn;rw[hT2]at h;refine uL (hr.ext he) h (fun e=>?_)
  rw[←hT2]at e;by_cases hcf:c=f
  ·omega
  ·rw[if_neg hcf]at e
   cases A with
   |none=>have:=hA rfl;omega
   |some a=>cases e
 have hfc:f≤c:=by omega
 have htc:t≤c:=by omega
 have hfn:f≤n:=by omega
 clear hb hz h0 h30 hrs hr hl hA;go_enter Tryz.func115,Tryz.ntmps115
 go_upto_region 1 with fail
 go_cut [7,8] (fun v7 v8 wx=>∃p ds x rs',v7=.pointer (some ⟨p,0,none⟩)∧v8=.int .i64 x∧w.heap.size≤p∧Hid (Aq wx p 38 ds)∧Hid (En wx w.heap.size ds rs')∧Hid (Um rl k2 ((l.drop f).take (t-f)) x rs')∧Hid (An w wx))
 case first=>
  refine wp_region_held_drew (S:=fun w'=>w'.cell? ⟨g,0,none⟩=some (.slice A n c)∧w'.cell? ⟨g,30,none⟩=some (.int .i64 k2)∧Aq w' g 118 cs) (by kernel_rfl) ⟨x0,x30,HB.out⟩ (fun hHeld=>?_)
  refine Bt (i:=0) (v:=(.pointer (some ⟨g,0,none⟩))) rfl hHeld ?_
  refine Bt (i:=1) (v:=(.pointer (some ⟨g,0,none⟩))) rfl hHeld ?_
  refine Bt (i:=2) (v:=(.pointer (some ⟨g,2,none⟩))) rfl hHeld ?_
  refine Fs (i:=3) (v:=(.agg rs)) rfl (fun w hSw=>by exact J0 rfl 38 (.tmp 12) rfl g 2 rfl 118 cs rs (0,0) _ hSw.2.2 HRv.out Tryz.underlying38 rfl (D0 HRs.out)) hHeld ?_
  refine Bt (i:=4) (v:=(.pointer (some ⟨g,0,none⟩))) rfl hHeld ?_
  refine Bt (i:=5) (v:=(.pointer (some ⟨g,0,none⟩))) rfl hHeld ?_
  refine Bt (i:=6) (v:=(.pointer (some ⟨g,29,none⟩))) rfl hHeld ?_
  refine Bt (i:=7) (v:=(.pointer (some ⟨g,30,none⟩))) rfl hHeld ?_
  refine Bt (i:=8) (v:=(.int .i64 k2)) rfl hHeld ?_
  refine Bt (i:=9) (v:=(.pointer (some ⟨g,0,none⟩))) rfl hHeld ?_
  refine Bt (i:=10) (v:=(.pointer (some ⟨g,0,none⟩))) rfl hHeld ?_
  refine Bt (i:=11) (v:=(.pointer (some ⟨g,0,none⟩))) rfl hHeld ?_
  refine Bt (i:=12) (v:=(.pointer (some ⟨g,0,none⟩))) rfl hHeld ?_
  refine Bt (i:=13) (v:=(.slice A n c)) rfl hHeld ?_
  refine Bt (i:=14) (v:=(.int .i64 (f:Int))) rfl hHeld ?_
  refine Bt (i:=15) (v:=(.int .i64 (t:Int))) rfl hHeld ?_
  refine Bt (i:=16) (v:=(.slice T2 (t-f) (c-f))) rfl hHeld ?_
  refine wpAnyH_ready (rs:=[17,21]) (by kernel_rfl) (by simp) ?_
  refine Ai rfl (fun K hK=>?_) (Ai rfl (fun K hK=>?_) Am)
  ·refine By rfl 148 #[.agg rs,.int .i64 k2,.slice T2 (t-f) (c-f)] rfl (by kernel_rfl) (fun v w'=>∃ds x rs',v=.tuple #[.agg ds,.int .i64 x]∧En w' w.drew.heap.size ds rs'∧Um rl k2 (l.drop f |>.take (t-f)) x rs'∧An w.drew w') ((HP.out _ (An.drew w)).mono fun e w' ⟨ds,x,rs',h1,h2,h3,h4⟩=>⟨_,h1,ds,x,rs',rfl,h2,h3,h4⟩) ?_
   rintro v w3 ⟨ds,x,rs',rfl,hR3,hP3,hx3⟩;have hb3:=(HB.out.ext (An.drew w)).ext hx3;refine hK.out _ _ ⟨hx3.cell x0,hx3.cell x30,hb3⟩ (fun hHeld2=>?_)
   clear hK K hHeld
   try simp only[Ac,Aa,Ab,Ap,A7,Ad,Ae]
   refine Bt (i:=18) (v:=(.tuple #[.agg ds,.int .i64 x])) rfl hHeld2 ?_
   refine Bt (i:=19) (v:=(.agg ds)) rfl hHeld2 ?_
   refine Bt (i:=20) (v:=(.int .i64 x)) rfl hHeld2 ?_
   refine wpAnyH_ready (rs:=[21]) (by kernel_rfl) (by simp) ?_
   refine Ai rfl (fun K hK=>?_) Am
   go_simp
   have hxa:=An.alloc w3 (.cells #[.slice none 0 0,.slice none 0 0,.slice none 0 0,.slice none 0 0,.slice none 0 0,.slice none 0 0,.slice none 0 0,.slice none 0 0,.slice none 0 0,.slice none 0 0,.slice none 0 0,.slice none 0 0,.slice none 0 0,.slice none 0 0,.slice none 0 0,.slice none 0 0,.slice none 0 0,.slice none 0 0,.slice none 0 0,.slice none 0 0,.slice none 0 0,.slice none 0 0,.slice none 0 0,.slice none 0 0,.slice none 0 0,.slice none 0 0,.slice none 0 0] 38);refine hK.out _ _ ⟨hxa.cell (hx3.cell x0),hxa.cell (hx3.cell x30),hb3.ext hxa⟩ (fun hHeld3=>?_)
   clear hK K hHeld2
   try simp only[Ac,Aa,Ab,Ap,A7,Ad,Ae]
   refine wpAnyH_ready (rs:=[22]) (by kernel_rfl) (by simp) ?_
   refine Ai rfl (fun K hK=>?_) Am
   refine C9 rfl 38 (.tmp 7) (.tmp 28) rfl w3.heap.size 0 ds rfl rfl 38 #[.slice none 0 0,.slice none 0 0,.slice none 0 0,.slice none 0 0,.slice none 0 0,.slice none 0 0,.slice none 0 0,.slice none 0 0,.slice none 0 0,.slice none 0 0,.slice none 0 0,.slice none 0 0,.slice none 0 0,.slice none 0 0,.slice none 0 0,.slice none 0 0,.slice none 0 0,.slice none 0 0,.slice none 0 0,.slice none 0 0,.slice none 0 0,.slice none 0 0,.slice none 0 0,.slice none 0 0,.slice none 0 0,.slice none 0 0,.slice none 0 0] (Aq.new w3 _ _) (D0 hR3.1) (by rw[hR3.1];exact Aj 27) hR3.regs.one ?_
   have hxf:An w3 ((w3.alloc (.cells #[.slice none 0 0,.slice none 0 0,.slice none 0 0,.slice none 0 0,.slice none 0 0,.slice none 0 0,.slice none 0 0,.slice none 0 0,.slice none 0 0,.slice none 0 0,.slice none 0 0,.slice none 0 0,.slice none 0 0,.slice none 0 0,.slice none 0 0,.slice none 0 0,.slice none 0 0,.slice none 0 0,.slice none 0 0,.slice none 0 0,.slice none 0 0,.slice none 0 0,.slice none 0 0,.slice none 0 0,.slice none 0 0,.slice none 0 0,.slice none 0 0] 38)).setRow w3.heap.size (Mm #[.slice none 0 0,.slice none 0 0,.slice none 0 0,.slice none 0 0,.slice none 0 0,.slice none 0 0,.slice none 0 0,.slice none 0 0,.slice none 0 0,.slice none 0 0,.slice none 0 0,.slice none 0 0,.slice none 0 0,.slice none 0 0,.slice none 0 0,.slice none 0 0,.slice none 0 0,.slice none 0 0,.slice none 0 0,.slice none 0 0,.slice none 0 0,.slice none 0 0,.slice none 0 0,.slice none 0 0,.slice none 0 0,.slice none 0 0,.slice none 0 0] 0 ds)):=An.setRow (An.alloc w3 _) (Aj _) _;have hbf:Aq ((w3.alloc (.cells #[.slice none 0 0,.slice none 0 0,.slice none 0 0,.slice none 0 0,.slice none 0 0,.slice none 0 0,.slice none 0 0,.slice none 0 0,.slice none 0 0,.slice none 0 0,.slice none 0 0,.slice none 0 0,.slice none 0 0,.slice none 0 0,.slice none 0 0,.slice none 0 0,.slice none 0 0,.slice none 0 0,.slice none 0 0,.slice none 0 0,.slice none 0 0,.slice none 0 0,.slice none 0 0,.slice none 0 0,.slice none 0 0,.slice none 0 0,.slice none 0 0] 38)).setRow w3.heap.size (Mm #[.slice none 0 0,.slice none 0 0,.slice none 0 0,.slice none 0 0,.slice none 0 0,.slice none 0 0,.slice none 0 0,.slice none 0 0,.slice none 0 0,.slice none 0 0,.slice none 0 0,.slice none 0 0,.slice none 0 0,.slice none 0 0,.slice none 0 0,.slice none 0 0,.slice none 0 0,.slice none 0 0,.slice none 0 0,.slice none 0 0,.slice none 0 0,.slice none 0 0,.slice none 0 0,.slice none 0 0,.slice none 0 0,.slice none 0 0,.slice none 0 0] 0 ds)) w3.heap.size 38 (Mm #[.slice none 0 0,.slice none 0 0,.slice none 0 0,.slice none 0 0,.slice none 0 0,.slice none 0 0,.slice none 0 0,.slice none 0 0,.slice none 0 0,.slice none 0 0,.slice none 0 0,.slice none 0 0,.slice none 0 0,.slice none 0 0,.slice none 0 0,.slice none 0 0,.slice none 0 0,.slice none 0 0,.slice none 0 0,.slice none 0 0,.slice none 0 0,.slice none 0 0,.slice none 0 0,.slice none 0 0,.slice none 0 0,.slice none 0 0,.slice none 0 0] 0 ds):=Aq.setRow (Aq.new w3 38 #[.slice none 0 0,.slice none 0 0,.slice none 0 0,.slice none 0 0,.slice none 0 0,.slice none 0 0,.slice none 0 0,.slice none 0 0,.slice none 0 0,.slice none 0 0,.slice none 0 0,.slice none 0 0,.slice none 0 0,.slice none 0 0,.slice none 0 0,.slice none 0 0,.slice none 0 0,.slice none 0 0,.slice none 0 0,.slice none 0 0,.slice none 0 0,.slice none 0 0,.slice none 0 0,.slice none 0 0,.slice none 0 0,.slice none 0 0,.slice none 0 0]) _;rw[Qh (by rw[hR3.1];rfl)]at hxf hbf ⊢
   have HF:=A6 (Bb hbf (Bb (hR3.ext hxf) (((An.drew w).trans hx3).trans hxf)));have hlt:w.heap.size≤w3.heap.size:=hx3.hsize;refine hK.out _ _ ⟨hxf.cell (hx3.cell x0),hxf.cell (hx3.cell x30),hb3.ext hxf⟩ (fun hHeld4=>?_)
   clear hK K hHeld3
   try simp only[Ac,Aa,Ab,Ap,A7,Ad,Ae]
   refine Bt (i:=23) (v:=(.int .i64 x)) rfl hHeld4 ?_
   refine wpAnyH_done (by kernel_rfl) ?_ _
   try go_wp2_with fail
   go_meet
   exact⟨w3.heap.size,ds,x,rs',rfl,rfl,hlt,A6 HF.out.1,A6 (En.lower HF.out.2.1 (show w.heap.size≤w.drew.heap.size from Aj _)),A6 hP3,A6 HF.out.2.2⟩
  ·go_simp
   have hxa:An w (w.drew.alloc (.cells #[.slice none 0 0,.slice none 0 0,.slice none 0 0,.slice none 0 0,.slice none 0 0,.slice none 0 0,.slice none 0 0,.slice none 0 0,.slice none 0 0,.slice none 0 0,.slice none 0 0,.slice none 0 0,.slice none 0 0,.slice none 0 0,.slice none 0 0,.slice none 0 0,.slice none 0 0,.slice none 0 0,.slice none 0 0,.slice none 0 0,.slice none 0 0,.slice none 0 0,.slice none 0 0,.slice none 0 0,.slice none 0 0,.slice none 0 0,.slice none 0 0] 38)):=(An.drew w).to_alloc _;have hba:Aq (w.drew.alloc (.cells #[.slice none 0 0,.slice none 0 0,.slice none 0 0,.slice none 0 0,.slice none 0 0,.slice none 0 0,.slice none 0 0,.slice none 0 0,.slice none 0 0,.slice none 0 0,.slice none 0 0,.slice none 0 0,.slice none 0 0,.slice none 0 0,.slice none 0 0,.slice none 0 0,.slice none 0 0,.slice none 0 0,.slice none 0 0,.slice none 0 0,.slice none 0 0,.slice none 0 0,.slice none 0 0,.slice none 0 0,.slice none 0 0,.slice none 0 0,.slice none 0 0] 38)) w.heap.size 38 #[.slice none 0 0,.slice none 0 0,.slice none 0 0,.slice none 0 0,.slice none 0 0,.slice none 0 0,.slice none 0 0,.slice none 0 0,.slice none 0 0,.slice none 0 0,.slice none 0 0,.slice none 0 0,.slice none 0 0,.slice none 0 0,.slice none 0 0,.slice none 0 0,.slice none 0 0,.slice none 0 0,.slice none 0 0,.slice none 0 0,.slice none 0 0,.slice none 0 0,.slice none 0 0,.slice none 0 0,.slice none 0 0,.slice none 0 0,.slice none 0 0]:=Aq.new w.drew _ _
   skip
   refine hK.out _ _ ⟨hxa.cell x0,hxa.cell x30,HB.out.ext hxa⟩ (fun hHeld2=>?_)
   clear hK K hHeld
   try simp only[Ac,Aa,Ab,Ap,A7,Ad,Ae]
   refine wpAnyH_ready (rs:=[17]) (by kernel_rfl) (by simp) ?_
   refine Ai rfl (fun K hK=>?_) Am
   refine By rfl 148 #[.agg rs,.int .i64 k2,.slice T2 (t-f) (c-f)] rfl (by kernel_rfl) (fun v w'=>∃ds x rs',v=.tuple #[.agg ds,.int .i64 x]∧En w' (w.drew.alloc (.cells #[.slice none 0 0,.slice none 0 0,.slice none 0 0,.slice none 0 0,.slice none 0 0,.slice none 0 0,.slice none 0 0,.slice none 0 0,.slice none 0 0,.slice none 0 0,.slice none 0 0,.slice none 0 0,.slice none 0 0,.slice none 0 0,.slice none 0 0,.slice none 0 0,.slice none 0 0,.slice none 0 0,.slice none 0 0,.slice none 0 0,.slice none 0 0,.slice none 0 0,.slice none 0 0,.slice none 0 0,.slice none 0 0,.slice none 0 0,.slice none 0 0] 38)).heap.size ds rs'∧Um rl k2 (l.drop f |>.take (t-f)) x rs'∧An (w.drew.alloc (.cells #[.slice none 0 0,.slice none 0 0,.slice none 0 0,.slice none 0 0,.slice none 0 0,.slice none 0 0,.slice none 0 0,.slice none 0 0,.slice none 0 0,.slice none 0 0,.slice none 0 0,.slice none 0 0,.slice none 0 0,.slice none 0 0,.slice none 0 0,.slice none 0 0,.slice none 0 0,.slice none 0 0,.slice none 0 0,.slice none 0 0,.slice none 0 0,.slice none 0 0,.slice none 0 0,.slice none 0 0,.slice none 0 0,.slice none 0 0,.slice none 0 0] 38)) w') ((HP.out _ hxa).mono fun e w' ⟨ds,x,rs',h1,h2,h3,h4⟩=>⟨_,h1,ds,x,rs',rfl,h2,h3,h4⟩) ?_
   rintro v w3 ⟨ds,x,rs',rfl,hR3,hP3,hx3⟩;have hb3:=(HB.out.ext hxa).ext hx3;have hc3:=hba.ext hx3;refine hK.out _ _ ⟨hx3.cell (hxa.cell x0),hx3.cell (hxa.cell x30),hb3⟩ (fun hHeld3=>?_)
   clear hK K hHeld2
   try simp only[Ac,Aa,Ab,Ap,A7,Ad,Ae]
   refine Bt (i:=18) (v:=(.tuple #[.agg ds,.int .i64 x])) rfl hHeld3 ?_
   refine Bt (i:=19) (v:=(.agg ds)) rfl hHeld3 ?_
   refine Bt (i:=20) (v:=(.int .i64 x)) rfl hHeld3 ?_
   refine wpAnyH_ready (rs:=[22]) (by kernel_rfl) (by simp) ?_
   refine Ai rfl (fun K hK=>?_) Am
   refine C9 rfl 38 (.tmp 7) (.tmp 28) rfl w.heap.size 0 ds rfl rfl 38 #[.slice none 0 0,.slice none 0 0,.slice none 0 0,.slice none 0 0,.slice none 0 0,.slice none 0 0,.slice none 0 0,.slice none 0 0,.slice none 0 0,.slice none 0 0,.slice none 0 0,.slice none 0 0,.slice none 0 0,.slice none 0 0,.slice none 0 0,.slice none 0 0,.slice none 0 0,.slice none 0 0,.slice none 0 0,.slice none 0 0,.slice none 0 0,.slice none 0 0,.slice none 0 0,.slice none 0 0,.slice none 0 0,.slice none 0 0,.slice none 0 0] hc3 (D0 hR3.1) (by rw[hR3.1];exact Aj 27) hR3.regs.one ?_
   have hxf:An w (w3.setRow w.heap.size (Mm #[.slice none 0 0,.slice none 0 0,.slice none 0 0,.slice none 0 0,.slice none 0 0,.slice none 0 0,.slice none 0 0,.slice none 0 0,.slice none 0 0,.slice none 0 0,.slice none 0 0,.slice none 0 0,.slice none 0 0,.slice none 0 0,.slice none 0 0,.slice none 0 0,.slice none 0 0,.slice none 0 0,.slice none 0 0,.slice none 0 0,.slice none 0 0,.slice none 0 0,.slice none 0 0,.slice none 0 0,.slice none 0 0,.slice none 0 0,.slice none 0 0] 0 ds)):=An.setRow (hxa.trans hx3) (Aj _) _;have hbf:Aq (w3.setRow w.heap.size (Mm #[.slice none 0 0,.slice none 0 0,.slice none 0 0,.slice none 0 0,.slice none 0 0,.slice none 0 0,.slice none 0 0,.slice none 0 0,.slice none 0 0,.slice none 0 0,.slice none 0 0,.slice none 0 0,.slice none 0 0,.slice none 0 0,.slice none 0 0,.slice none 0 0,.slice none 0 0,.slice none 0 0,.slice none 0 0,.slice none 0 0,.slice none 0 0,.slice none 0 0,.slice none 0 0,.slice none 0 0,.slice none 0 0,.slice none 0 0,.slice none 0 0] 0 ds)) w.heap.size 38 (Mm #[.slice none 0 0,.slice none 0 0,.slice none 0 0,.slice none 0 0,.slice none 0 0,.slice none 0 0,.slice none 0 0,.slice none 0 0,.slice none 0 0,.slice none 0 0,.slice none 0 0,.slice none 0 0,.slice none 0 0,.slice none 0 0,.slice none 0 0,.slice none 0 0,.slice none 0 0,.slice none 0 0,.slice none 0 0,.slice none 0 0,.slice none 0 0,.slice none 0 0,.slice none 0 0,.slice none 0 0,.slice none 0 0,.slice none 0 0,.slice none 0 0] 0 ds):=Aq.setRow hc3 _;have hsz:w.heap.size<(w.drew.alloc (.cells #[.slice none 0 0,.slice none 0 0,.slice none 0 0,.slice none 0 0,.slice none 0 0,.slice none 0 0,.slice none 0 0,.slice none 0 0,.slice none 0 0,.slice none 0 0,.slice none 0 0,.slice none 0 0,.slice none 0 0,.slice none 0 0,.slice none 0 0,.slice none 0 0,.slice none 0 0,.slice none 0 0,.slice none 0 0,.slice none 0 0,.slice none 0 0,.slice none 0 0,.slice none 0 0,.slice none 0 0,.slice none 0 0,.slice none 0 0,.slice none 0 0] 38)).heap.size:=hba.lt;have hrf:=hR3.setRow (g:=w.heap.size) hsz (Mm #[.slice none 0 0,.slice none 0 0,.slice none 0 0,.slice none 0 0,.slice none 0 0,.slice none 0 0,.slice none 0 0,.slice none 0 0,.slice none 0 0,.slice none 0 0,.slice none 0 0,.slice none 0 0,.slice none 0 0,.slice none 0 0,.slice none 0 0,.slice none 0 0,.slice none 0 0,.slice none 0 0,.slice none 0 0,.slice none 0 0,.slice none 0 0,.slice none 0 0,.slice none 0 0,.slice none 0 0,.slice none 0 0,.slice none 0 0,.slice none 0 0] 0 ds);have hdf:Aq (w3.setRow w.heap.size (Mm #[.slice none 0 0,.slice none 0 0,.slice none 0 0,.slice none 0 0,.slice none 0 0,.slice none 0 0,.slice none 0 0,.slice none 0 0,.slice none 0 0,.slice none 0 0,.slice none 0 0,.slice none 0 0,.slice none 0 0,.slice none 0 0,.slice none 0 0,.slice none 0 0,.slice none 0 0,.slice none 0 0,.slice none 0 0,.slice none 0 0,.slice none 0 0,.slice none 0 0,.slice none 0 0,.slice none 0 0,.slice none 0 0,.slice none 0 0,.slice none 0 0] 0 ds)) g 118 cs:=HB.out.ext hxf;rw[Qh (by rw[hR3.1];rfl)]at hxf hbf hrf hdf ⊢
   have HF:=A6 (Bb hbf (Bb hrf hxf));refine hK.out _ _ ⟨hxf.cell x0,hxf.cell x30,hdf⟩ (fun hHeld4=>?_)
   clear hK K hHeld3
   try simp only[Ac,Aa,Ab,Ap,A7,Ad,Ae]
   refine Bt (i:=23) (v:=(.int .i64 x)) rfl hHeld4 ?_
   refine wpAnyH_done (by kernel_rfl) ?_ _
   try go_wp2_with fail
   go_meet
   exact⟨w.heap.size,ds,x,rs',rfl,rfl,Aj _,A6 HF.out.1,A6 (En.lower HF.out.2.1 (Nat.le_of_lt hsz)),A6 hP3,A6 HF.out.2.2⟩
 case rest=>
  obtain⟨p,ds,x,rs',rfl,rfl,hp,HBp,HRO,HPR,HXc⟩:=hcut;have HBg:=A6 (HB.out.ext HXc.out);have hxg:=A6 (Fk HXc.out (some g));clear x0 x30 hT2 HP HB;by_cases hx0:x=0
  ·subst hx0
   have Tu:Hid (∃i m,Fu k2=some (i,m)∧¬Gw rl i m ((l.drop f).take (t-f))∧rs'=Kv rl i m ((l.drop f).take (t-f))):=A6 (by
    rcases HPR.out with h|⟨_,h⟩
    ·exact absurd rfl h.1
    ·exact h)
   have hds:=A6 HRO.out.1;have hone:=A6 HRO.out.regs.one;go_wp2_with (first
    |(refine wpList_load_row rfl 38 (.tmp 7) rfl p rfl 38 ds (0,0) _ HBp.out Tryz.underlying38 rfl (D0 hds.out) ?_)
    |(refine Kh rfl 38 (.tmp 36) (.tmp 33) rfl g 36 ds rfl rfl 118 cs HBg.out (D0 hds.out) (by rw[hds.out,HZ.out];decide) hone.out ?_))
   go_ret
   exact⟨0,rfl,Cx hxg.out (Fd _ _ _),fun _=>rfl,fun _=>⟨ds,rs',Aq.setRow HBg.out _,En.setRow HRO.out hgw _,Tu.out⟩⟩
  ·go_wp2_with fail
   go_ret
   exact⟨x,rfl,hxg.out,fun h=>by rcases HPR.out with h9|h9;exact absurd h h9.2;exact h9.1,fun h=>absurd h hx0⟩
def Na (x:Int):Int:=if 97≤x∧x≤122 then x-32 else if 65≤x∧x≤90 then x+32 else x
theorem sQ:∀n:Fin 26,bits .xor .i64 (97+(n.val:Int)) 32=65+(n.val:Int):=by decide +kernel
theorem wW:∀n:Fin 26,bits .xor .i64 (65+(n.val:Int)) 32=97+(n.val:Int):=by decide +kernel
theorem oR {x:Int}(h1:97≤x)(h2:x≤122):bits .xor .i64 x 32=Na x:=by
 have h:=sQ ⟨(x-97).toNat,by omega⟩
 rw[show(97:Int)+(((⟨(x-97).toNat,by omega⟩:Fin 26).val:Nat):Int)=x by simp;omega]at h
 rw[h];unfold Na;rw[if_pos ⟨h1,h2⟩];simp;omega
theorem tY {x:Int}(h1:65≤x)(h2:x≤90):bits .xor .i64 x 32=Na x:=by
 have h:=wW ⟨(x-65).toNat,by omega⟩
 rw[show(65:Int)+(((⟨(x-65).toNat,by omega⟩:Fin 26).val:Nat):Int)=x by simp;omega]at h
 rw[h];unfold Na;rw[if_neg (by omega),if_pos ⟨h1,h2⟩]
 simp;omega
theorem jJ (x:Int)(w:World):Calls Tryz.prog 112 #[.int .i64 x] w fun e w'=>e=.returned (.int .i64 (Na x))∧w=w':=by
 go_enter Tryz.func112,Tryz.ntmps112
 go_wp2_with fail
 all_goals
  go_ret
  refine⟨?_,rfl⟩
  first
   |(rw[oR (by assumption) (by assumption)];rfl)
   |(rw[tY (by assumption) (by assumption)];rfl)
   |(unfold Na;rw[if_neg (by omega),if_neg (by omega)];rfl)
def Qy (l:List Int)(a k:Nat):List Int:=l.take a++((l.drop a).take k).map Na++l.drop (a+k)
theorem mI {g n c a k:Nat}(hb:Aq w g 118 cs)(h0:cs[0]? = some (.slice A n c))(h1:cs[1]? = some (.int .i64 (a:Int)))(h34:cs[34]? = some v34)(h66:cs[66]? = some v66)(hl:Bl w A n c l)(hn:n≤200)(hak:a+k≤n):
 Calls Tryz.prog 111 #[.pointer (some ⟨g,0,none⟩),.int .i64 (k:Int),.func (.func 112) #[] #[]] w fun e w'=>(∃u,e=.returned u)∧Td w g cs l (Qy l a k) w':=by
 have N0:=trivial;exact K23
theorem Vd (x y:Int)(w:World)(hx : -1000000≤x∧x≤1000000)(hy:0≤y∧y≤1000000):Calls Tryz.prog 113 #[.int .i64 x,.int .i64 y] w fun e w'=>e=.returned (.int .i64 (max 0 (min x (y-1))))∧w=w':=by
 have hwr:IntKind.i64.wrap (y-1)=y-1:=IntWalk.i64_in _ (by omega)
 go_enter Tryz.func113,Tryz.ntmps113
 go_wp2_with fail
 all_goals
  go_ret
  refine⟨?_,rfl⟩
  show Ending.returned (Value.int .i64 _)=_
  first
   |(congr 2;omega)
   |(congr 2)
theorem P4.one {g:Nat}{n c:Nat}{a:Int}{rs:Array Value}{k1 k2 k3 k4 k5 fk fa:Int}{B:Option Addr}{d:Nat}(h:P4 w g cs A n c a rs rl k1 k2 k3 k4 k5 fk fa B d):∀k v,34≤k→cs[k]? = some v→v.oneCell'=true:=by
 intro k v hk hv;have hlt:k<67:=by
  exact I114
 by_cases h1:k=34
 ·subst h1;rw[h.out]at hv;injection hv with hv;subst hv;rfl
 ·by_cases h2:k=35
  ·subst h2;rw[h.oat]at hv;injection hv with hv;subst hv;rfl
  ·by_cases h3:k<63
   ·obtain⟨u,hu,C,m,e,rfl,_⟩:=h.oregs (k-36) (by omega)
    exact I100
   ·have h4:k=63∨k=64∨k=65∨k=66:=by omega
    rcases h4 with rfl|rfl|rfl|rfl
    ·rw[h.c63]at hv;injection hv with hv;subst hv;rfl
    ·rw[h.c64]at hv;injection hv with hv;subst hv;rfl
    ·rw[h.c65]at hv;injection hv with hv;subst hv;rfl
    ·rw[h.c66]at hv;injection hv with hv;subst hv;rfl
theorem mJ {a k:Nat}(h:a+k≤l.length):(Qy l a k).length=l.length:=by
 unfold Qy;simp;omega
end
