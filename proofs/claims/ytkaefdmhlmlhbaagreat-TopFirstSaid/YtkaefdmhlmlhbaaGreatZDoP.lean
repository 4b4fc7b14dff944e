/-
  Part ZDoP.
-/
import Derived.Test.YtkaefdmhlmlhbaaGreatZConc
import Derived.Test.YtkaefdmhlmlhbaaGreatZDoA
import Derived.Test.YtkaefdmhlmlhbaaGreatZBtwM
import Derived.IntWalk
set_option maxRecDepth 100000
set_option maxHeartbeats 16000000
set_option linter.unusedVariables false
set_option linter.unusedSimpArgs false
namespace Go.Proofs.YtkaefdmhlmlhbaaGreat
open Go.RowKit
open _root_.Go.Proofs.Tryz
open Act renaming put→Ao
open AllReadyH renaming cons→Ai,nil→Am
open _root_.List renaming getElem_cons_succ→Ab,getElem_cons_zero→Aa,getElem_toArray→Ac,setIfInBounds_toArray→A7,set_cons_succ→Ae,set_cons_zero→Ad
open _root_.Nat renaming le_refl→Aj,lt_succ_self→Bt
open Value renaming slice→Ak
open _root_.And renaming intro→Au
open Region renaming wanted→Bu
section
variable {A T:Option Addr}{w:World}{cs rs:Array Value}{rl:Nat→List Int}{k1 k2 k3 k4 k5 fk fa:Int}{l:List Int}{v34 v66:Value}{n c g f t:Nat}{P:Program}
theorem qF {l m:List Int}{A B:Option Addr}{n c q d:Nat}(hl:Bj w A n c l)(hm:Bj w B q d m)(hB:B=none→d=0)(hn:n≤4096)(hq:q≤4096):
 Calls prog 149 #[.slice A n c,.slice B q d] w fun e' w'=>∃O k z e,e'=.returned (.tuple #[.slice O k z,(0:Int)])∧Es w' w.heap.size (.slice O k z) e∧(∃k j,qV l m k j∧((k=n∧k=q∧e=[])∨(¬(k=n∧k=q)∧e=[Re l m k j])))∧An w w':=
 (fB hl hm hB hn hq).mono fun e' w' ⟨⟨k,j,h1,h2⟩,h3⟩=>by
  rcases h2 with⟨h4,h5,rfl⟩|⟨h4,g,rfl,h5⟩
  ·exact⟨none,0,0,[],rfl,Es.nil _ _,⟨k,j,h1,.inl ⟨h4,h5,rfl⟩⟩,h3⟩
  ·exact⟨_,_,_,_,rfl,h5,⟨k,j,h1,.inr ⟨h4,rfl⟩⟩,h3⟩
def G9 (l m:List Int)(e:List Gp):Prop:=∃k j,qV l m k j∧((k=l.length∧k=m.length∧e=[])∨(¬(k=l.length∧k=m.length)∧e=[Re l m k j]))
def Ui (w:World)(g:Nat)(cs:Array Value)(l m:List Int)(w':World):Prop:=
 w.grownBy w' (some g)∧∃B q b O k z e,Aq w' g 118 ((cs.setIfInBounds 66 (.slice O k z)).setIfInBounds 34 (.slice B q b))∧Ba w' w.heap.size B q b m∧Es w' w.heap.size (.slice O k z) e∧G9 l m e∧∀g',(Ak B q b).ownBlock=some g'→Es w' (g'+1) (.slice O k z) e
theorem Wp {g n c f t m d:Nat}{l x:List Int}(hb:Aq w g 118 cs)(h0:cs[0]? = some (.slice A n c))(dx:cs[34]? = some v34)(AB:cs[66]? = some v66)(hl:Bj w A n c l)(hx:Bj w T m d x)(hT:T=none→d=0)
 (gi:f≤t) (pj:t≤n) (hn:n≤200) (hm:m≤3000):
 Calls prog 116 #[.pointer (some ⟨g,0,none⟩),.int .i64 (f:Int),.int .i64 (t:Int),.slice T m d] w fun e w'=>(∃u,e=.returned u)∧Ui w g cs l (l.take f++x++l.drop t) w':=by
 have jh:=hl.len;have ld:=hx.len;have aw:=hl.ncap;have aq:=hl.nmax;unfold maxLen at aq;obtain⟨T2,AC⟩:∃T2,(if c=t then A else Option.map (fun x=>x.add t) A)=T2:=⟨_,rfl⟩
 have HC:Hid (Calls prog 134 #[.slice (some ⟨w,0,none⟩) 3 3] (w.drew.alloc (.cells #[.slice A f c,.slice T m d,.slice T2 (n-t) (c-t)] 25)) fun e w'=>∃B q b,e=.returned (.slice B q b)∧Ba w' w.heap.size B q b (l.take f++x++l.drop t)∧An w w'):=A6 (by
  have he:An w (w.drew.alloc (.cells #[.slice A f c,.slice T m d,.slice T2 (n-t) (c-t)] 25)):=(An.drew w).to_alloc _;have eq:=hl.ext he;have hS:Rd (w.drew.alloc (.cells #[.slice A f c,.slice T m d,.slice T2 (n-t) (c-t)] 25)) 1 (some ⟨w,0,none⟩) 3 3 [.slice A f c,.slice T m d,.slice T2 (n-t) (c-t)]:=Rd.litAtConc w.drew 25 _ rfl rfl (by omega)
  have h1:=Zx hS (Qw.three (eq.front (k:=f) (by omega)) (hx.ext he) (by have h:=eq.cut pj (Aj n);rw[AC]at h;exact h)) rfl (by
   simp;omega)
  refine h1.mono fun e w' ⟨B,q,b,h2,h3,h4⟩=>⟨B,q,b,h2,?_,he.trans h4⟩
  have:(l.take f::x::[(l.drop t).take (n-t)]).flatten=l.take f++x++l.drop t:=by
   have hh:(l.drop t).take (n-t)=l.drop t:=List.take_of_length_le (by rw[List.length_drop,jh];exact Aj _)
   rw[hh];simp
  rw[←this];exact Bd.lower h3 he.hsize)
 have x0:w.cell? ⟨g,0,none⟩=some (.slice A n c):=(hb.cell 0).trans h0;have rz:=hb.lt;have HB:=A6 hb;have HL:=A6 hl;have RB:=A6 dx;have RC:=A6 AB;have LB:Hid ((l.take f++x++l.drop t).length≤4096):=A6 (by simp;omega)
 have Tu:=A6 jh;have y7:f≤c:=by omega
 have y8:t≤c:=by omega
 have KR:f≤n:=by omega
 clear hb h0 dx AB hl hx hT jh ld hm;go_enter func116,ntmps116
 go_upto_region 0 with fail
 refine wp_region_held_drew (S:=fun w'=>w'.cell? ⟨g,0,none⟩=some (.slice A n c)) (by kernel_rfl) x0 (fun aa=>?_)
 refine Ga (i:=0) (v:=some g) rfl (fun w ag=>by have ag:w.cell? ⟨g,0,none⟩=some (.slice A n c):=ag;go_simp) aa ?_
 refine Ga (i:=1) (v:=some g) rfl (fun w ag=>by have ag:w.cell? ⟨g,0,none⟩=some (.slice A n c):=ag;go_simp) aa ?_
 refine Ga (i:=2) (v:=some g) rfl (fun w ag=>by have ag:w.cell? ⟨g,0,none⟩=some (.slice A n c):=ag;go_simp) aa ?_
 refine Ga (i:=3) (v:=some g) rfl (fun w ag=>by have ag:w.cell? ⟨g,0,none⟩=some (.slice A n c):=ag;go_simp) aa ?_
 refine Ga (i:=4) (v:=(.slice A n c)) rfl (fun w ag=>by have ag:w.cell? ⟨g,0,none⟩=some (.slice A n c):=ag;go_simp) aa ?_
 refine Ga (i:=5) (v:=(.int .i64 (f:Int))) rfl (fun w ag=>by have ag:w.cell? ⟨g,0,none⟩=some (.slice A n c):=ag;go_simp) aa ?_
 refine Ga (i:=6) (v:=(.slice A f c)) rfl (fun w ag=>by have ag:w.cell? ⟨g,0,none⟩=some (.slice A n c):=ag;go_simp) aa ?_
 refine Ga (i:=7) (v:=(.slice T m d)) rfl (fun w ag=>by have ag:w.cell? ⟨g,0,none⟩=some (.slice A n c):=ag;go_simp) aa ?_
 refine Ga (i:=8) (v:=some g) rfl (fun w ag=>by have ag:w.cell? ⟨g,0,none⟩=some (.slice A n c):=ag;go_simp) aa ?_
 refine Ga (i:=9) (v:=some g) rfl (fun w ag=>by have ag:w.cell? ⟨g,0,none⟩=some (.slice A n c):=ag;go_simp) aa ?_
 refine Ga (i:=10) (v:=some g) rfl (fun w ag=>by have ag:w.cell? ⟨g,0,none⟩=some (.slice A n c):=ag;go_simp) aa ?_
 refine Ga (i:=11) (v:=some g) rfl (fun w ag=>by have ag:w.cell? ⟨g,0,none⟩=some (.slice A n c):=ag;go_simp) aa ?_
 refine Ga (i:=12) (v:=(.slice A n c)) rfl (fun w ag=>by have ag:w.cell? ⟨g,0,none⟩=some (.slice A n c):=ag;go_simp) aa ?_
 refine Ga (i:=13) (v:=(.int .i64 (t:Int))) rfl (fun w ag=>by have ag:w.cell? ⟨g,0,none⟩=some (.slice A n c):=ag;go_simp) aa ?_
 refine Ga (i:=14) (v:=(.slice T2 (n-t) (c-t))) rfl (fun w ag=>by have ag:w.cell? ⟨g,0,none⟩=some (.slice A n c):=ag;go_simp) aa ?_
 refine wpAnyH_ready (rs:=[15]) (by kernel_rfl) (by simp) ?_
 refine Ai rfl (fun K hK=>?_) Am
 go_simp
 refine hK.out _ _ ((An.alloc w.drew _).cell x0) (fun af=>?_)
 clear hK K aa
 try simp only[Ac,Aa,Ab,Ao,A7,Ad,Ae]
 refine wpAnyH_ready (rs:=[16]) (by kernel_rfl) (by simp) ?_
 refine Ai rfl (fun K hK=>?_) Am
 refine C8 rfl 134 #[.slice (some ⟨w,0,none⟩) 3 3] rfl (by kernel_rfl) (fun v w'=>∃B q b,v=.slice B q b∧Ba w' w.heap.size B q b (l.take f++x++l.drop t)∧An w w') (HC.out.mono fun e w' ⟨B,q,b,h1,h2,h3⟩=>⟨_,h1,B,q,b,rfl,h2,h3⟩) ?_
 rintro v w3 ⟨B,q,b,rfl,cv,bg⟩;refine hK.out _ _ (bg.cell x0) (fun bb=>?_)
 clear hK K af AC
 try simp only[Ac,Aa,Ab,Ao,A7,Ad,Ae]
 refine Ga (i:=17) (v:=(.slice B q b)) rfl (fun w ag=>by have ag:w.cell? ⟨g,0,none⟩=some (.slice A n c):=ag;go_simp) bb ?_
 refine wpAnyH_done (by kernel_rfl) ?_ _
 obtain⟨M,hM⟩:∃M,l.take f++x++l.drop t=M:=⟨_,rfl⟩;rw[hM]at cv LB;have zg:=A6 hM;have dr:=cv.ints.len;have Ub:=A6 (qF (HL.out.ext bg) cv.ints (Bd.nocap cv) (by omega) (by have:=LB.out;omega))
 have FA:=A6 cv;have gu:=A6 bg;have HQl:=A6 dr;clear hM cv bg dr HC x0;go_wp2_with fail
 refine Ub.out.mono ?_
 rintro e' w4 ⟨O,k,z,ed,rfl,AG,f6,li⟩;have bn:=(HB.out.ext gu.out).ext li;have c66:w4.cell? ⟨g,66,none⟩=some v66:=(bn.cell 66).trans RC.out;have f66:=bn.frozen 66;have cg:=bn.set_ 66 (.slice O k z);have c34:(w4.setCell ⟨g,66,none⟩ (.slice O k z)).cell? ⟨g,34,none⟩=some v34:=by
  rw[cg.cell 34,Array.getElem?_setIfInBounds_ne (by omega)];exact RB.out
 have f34:=cg.frozen 34;have px:=A6 (cg.set_ 34 (.slice B q b));have UG:=A6 ((Es.lower AG gu.out.hsize).kept (Fz w4 ⟨g,66,none⟩ (.slice O k z)) (fun k e=>by injection e with e;have e:g=k:=e;omega) |>.kept (Fz _ ⟨g,34,none⟩ (.slice B q b)) (fun k e=>by injection e with e;have e:g=k:=e;omega))
 have RD:=A6 (Bd.setCell (Bd.setCell (Bd.ext FA.out li) (p:=⟨g,66,none⟩) rz (.slice O k z)) (p:=⟨g,34,none⟩) rz (.slice B q b));have RE:=A6 (Da (Da (G0 (gu.out.trans li) (some g)) (Fz w4 ⟨g,66,none⟩ (.slice O k z))) (Fz _ ⟨g,34,none⟩ (.slice B q b)));have vh:Hid (G9 l M ed):=A6 (by
  obtain⟨k',j',h1,h2⟩:=f6;refine⟨k',j',h1,?_⟩
  rw[Tu.out,HQl.out];exact h2)
 have KP:Hid (∀g',(Ak B q b).ownBlock=some g'→Es ((w4.setCell ⟨g,66,none⟩ (.slice O k z)).setCell ⟨g,34,none⟩ (.slice B q b)) (g'+1) (.slice O k z) ed):=A6 (fun g' cr=>by
  obtain⟨h1,h2⟩:=Bd.blk FA.out g' cr;exact((Es.lower AG h2).kept (Fz w4 ⟨g,66,none⟩ (.slice O k z)) (fun k e=>by injection e with e;have e:g=k:=e;omega)).kept (Fz _ ⟨g,34,none⟩ (.slice B q b)) (fun k e=>by injection e with e;have e:g=k:=e;omega))
 clear AG f6 li bn cg Ub HB HL;go_wp2_with fail
 go_end0
 exact⟨⟨_,rfl⟩,RE.out,B,q,b,O,k,z,ed,px.out,zg.out▸RD.out,UG.out,zg.out▸vh.out,KP.out⟩
theorem Ji {o:Oper}{a:Act}(dn:o.guard=none)(ty:TypeId)(x:Operand)(ho:o.op=.load ty x)(g off:Nat)(hx:a.eval x=.pointer (some ⟨g,off,none⟩))(t:TypeId)(cs vs:Array Value)(fr:Nat×Nat)(d:TypeDesc)(hg:w.heap[g]? = some (.cells cs t fr))(hv:∀j v,vs[j]? = some v→cs[off+j]? = some v)
 (hu:P.underlying ty=some d) (hd:(match d with|.struct _|.array _ _=>true|_=>false)=true) (hi:(P.info? ty).map (·.size)=some vs.size):(execOp a.eval o).run P w=.ok (.value (.agg vs)) w:=by
 unfold execOp;simp only[ho,hx,Instr.loadAt,Instr.sureAddr,Sem.run_bind,Sem.run_pure,Result.andThen_ok,Jz w g off t ty cs vs fr d hg hv hu hd hi]
theorem Rk {cs vs:Array Value}(h:vs.size=cs.size):L0 cs 0 vs=vs:=by
 unfold L0;rw[List.drop_of_length_le (by simp;omega)]
 simp
def Vu (rl:Nat→List Int)(k:Int)(text:List Int)(x:Int)(ii:Nat→List Int):Prop:=
 (x≠0∧¬ ∃i m,Gb k=some (i,m)∧¬Ho rl i m text)∨(x=0∧∃i m,Gb k=some (i,m)∧¬Ho rl i m text∧ii=Lm rl i m text)
theorem yX {k:Int}{text:List Int}(hr:Lp w cs rl)(ht:Bj w A n c text)(hA:A=none→c=0):
 Calls prog 148 #[.agg cs,.int .i64 k,.slice A n c] w fun e w'=>∃ds x ii,e=.returned (.tuple #[.agg ds,.int .i64 x])∧Fd w' w.heap.size ds ii∧Vu rl k text x ii∧An w w':=by
 cases h:Gb k with
 |none=>exact(yW h).mono fun e w' ⟨h1,h2⟩=>⟨Cb,9,_,h1,Xl _ _,.inl ⟨by decide,fun⟨i,m,h9,_⟩=>by rw[h]at h9;cases h9⟩,h2⟩
 |some p=>
  obtain⟨i,m⟩:=p;by_cases hb:Ho rl i m text
  ·exact(nQ hr ht h hb).mono fun e w' ⟨h1,h2⟩=>⟨Cb,2,_,h1,Xl _ _,.inl ⟨by decide,fun⟨i',m',h9,h8⟩=>by rw[h]at h9;injection h9 with h9;injection h9 with h9 h7;subst h9;subst h7;exact h8 hb⟩,h2⟩
  ·exact(J3k hr ht hA h hb).mono fun e w' ⟨ds,h1,h2,h3⟩=>⟨ds,0,_,h1,h2.1,.inr ⟨rfl,i,m,h,hb,rfl⟩,h3⟩
def J5n (w:World)(g:Nat)(cs:Array Value)(rl:Nat→List Int)(k:Int)(text:List Int)(e:Ending)(w':World):Prop:=
 ∃x,e=.returned (.int .i64 x)∧w.grownBy w' (some g)∧((∃i m,Gb k=some (i,m)∧¬Ho rl i m text)→x=0)∧(x=0→∃ds ii,Aq w' g 118 (L0 cs 36 ds)∧Fd w' w.heap.size ds ii∧∃i m,Gb k=some (i,m)∧¬Ho rl i m text∧ii=Lm rl i m text)
theorem zZ {k2:Int}(hb:Aq w g 118 cs)(hz:cs.size=67)(h0:cs[0]? = some (.slice A n c))(mh:cs[30]? = some (.int .i64 k2))(fc:∀j,j<27→cs[2+j]? = rs[j]?)(hr:Lp w rs rl)(hl:Bj w A n c l)(hA:A=none→c=0)(gi:f≤t)(pj:t≤n)(hn:n≤200):
 Calls prog 115 #[.pointer (some ⟨g,0,none⟩),.int .i64 (f:Int),.int .i64 (t:Int)] w (J5n w g cs rl k2 ((l.drop f).take (t-f))):=by
 have aw:=hl.ncap;have aq:=hl.nmax;unfold maxLen at aq;have x0:w.cell? ⟨g,0,none⟩=some (.slice A n c):=(hb.cell 0).trans h0;have x30:w.cell? ⟨g,30,none⟩=some (.int .i64 k2):=(hb.cell 30).trans mh;have rz:=hb.lt;have HB:=A6 hb;have HZ:=A6 hz;have TZ:=A6 hr.1;have UA:Hid (∀j v,rs[j]? = some v→cs[2+j]? = some v):=A6 (fun j v hj=>by
  have ae:=(Array.getElem?_eq_some_iff.1 hj).1;rw[hr.1]at ae;rw[fc j ae];exact hj)
 obtain⟨T2,AC⟩:∃T2,(if c=f then A else Option.map (fun x=>x.add f) A)=T2:=⟨_,rfl⟩
 have HP:Hid (∀wx,An w wx→Calls prog 148 #[.agg rs,.int .i64 k2,.slice T2 (t-f) (c-f)] wx fun e w'=>∃ds x ii,e=.returned (.tuple #[.agg ds,.int .i64 x])∧Fd w' wx.heap.size ds ii∧Vu rl k2 ((l.drop f).take (t-f)) x ii∧An wx w'):=A6 fun wx he=>by
  have h:=(hl.ext he).cut gi pj;rw[AC]at h;refine yX (hr.ext he) h (fun e=>?_)
  rw[←AC]at e;by_cases QU:c=f
  ·omega
  ·rw[if_neg QU]at e
   cases A with
   |none=>have:=hA rfl;omega
   |some a=>cases e
 have y7:f≤c:=by omega
 have y8:t≤c:=by omega
 have KR:f≤n:=by omega
 clear hb hz h0 mh fc hr hl hA;go_enter func115,ntmps115
 go_upto_region 1 with fail
 go_cut [7,8] (fun v7 v8 wx=>∃p ds x ii,v7=.pointer (some ⟨p,0,none⟩)∧v8=.int .i64 x∧w.heap.size≤p∧Hid (Aq wx p 38 ds)∧Hid (Fd wx w.heap.size ds ii)∧Hid (Vu rl k2 ((l.drop f).take (t-f)) x ii)∧Hid (An w wx))
 case first=>
  refine wp_region_held_drew (S:=fun w'=>w'.cell? ⟨g,0,none⟩=some (.slice A n c)∧w'.cell? ⟨g,30,none⟩=some (.int .i64 k2)∧Aq w' g 118 cs) (by kernel_rfl) ⟨x0,x30,HB.out⟩ (fun aa=>?_)
  refine Bv (i:=0) (v:=some g) rfl aa ?_
  refine Bv (i:=1) (v:=some g) rfl aa ?_
  refine Bv (i:=2) (v:=(.pointer (some ⟨g,2,none⟩))) rfl aa ?_
  refine Ga (i:=3) (v:=(.agg rs)) rfl (fun w ag=>by exact Ji rfl 38 (.tmp 12) rfl g 2 rfl 118 cs rs (0,0) _ ag.2.2 UA.out underlying38 rfl (De TZ.out)) aa ?_
  refine Bv (i:=4) (v:=some g) rfl aa ?_
  refine Bv (i:=5) (v:=some g) rfl aa ?_
  refine Bv (i:=6) (v:=(.pointer (some ⟨g,29,none⟩))) rfl aa ?_
  refine Bv (i:=7) (v:=(.pointer (some ⟨g,30,none⟩))) rfl aa ?_
  refine Bv (i:=8) (v:=k2) rfl aa ?_
  refine Bv (i:=9) (v:=some g) rfl aa ?_
  refine Bv (i:=10) (v:=some g) rfl aa ?_
  refine Bv (i:=11) (v:=some g) rfl aa ?_
  refine Bv (i:=12) (v:=some g) rfl aa ?_
  refine Bv (i:=13) (v:=(.slice A n c)) rfl aa ?_
  refine Bv (i:=14) (v:=(.int .i64 (f:Int))) rfl aa ?_
  refine Bv (i:=15) (v:=(.int .i64 (t:Int))) rfl aa ?_
  refine Bv (i:=16) (v:=(.slice T2 (t-f) (c-f))) rfl aa ?_
  refine wpAnyH_ready (rs:=[17,21]) (by kernel_rfl) (by simp) ?_
  refine Ai rfl (fun K hK=>?_) (Ai rfl (fun K hK=>?_) Am)
  ·refine C8 rfl 148 #[.agg rs,.int .i64 k2,.slice T2 (t-f) (c-f)] rfl (by kernel_rfl) (fun v w'=>∃ds x ii,v=.tuple #[.agg ds,.int .i64 x]∧Fd w' w.drew.heap.size ds ii∧Vu rl k2 (l.drop f |>.take (t-f)) x ii∧An w.drew w') ((HP.out _ (An.drew w)).mono fun e w' ⟨ds,x,ii,h1,h2,h3,h4⟩=>⟨_,h1,ds,x,ii,rfl,h2,h3,h4⟩) ?_
   rintro v w3 ⟨ds,x,ii,rfl,xb,UB,bg⟩;have ap:=(HB.out.ext (An.drew w)).ext bg;refine hK.out _ _ ⟨bg.cell x0,bg.cell x30,ap⟩ (fun af=>?_)
   clear hK K aa
   try simp only[Ac,Aa,Ab,Ao,A7,Ad,Ae]
   refine Bv (i:=18) (v:=(.tuple #[.agg ds,.int .i64 x])) rfl af ?_
   refine Bv (i:=19) (v:=(.agg ds)) rfl af ?_
   refine Bv (i:=20) (v:=x) rfl af ?_
   refine wpAnyH_ready (rs:=[21]) (by kernel_rfl) (by simp) ?_
   refine Ai rfl (fun K hK=>?_) Am
   go_simp
   have jd:=An.alloc w3 (.cells #[(),(),(),(),(),(),(),(),(),(),(),(),(),(),(),(),(),(),(),(),(),(),(),(),(),(),()] 38);refine hK.out _ _ ⟨jd.cell (bg.cell x0),jd.cell (bg.cell x30),ap.ext jd⟩ (fun bb=>?_)
   clear hK K af
   try simp only[Ac,Aa,Ab,Ao,A7,Ad,Ae]
   refine wpAnyH_ready (rs:=[22]) (by kernel_rfl) (by simp) ?_
   refine Ai rfl (fun K hK=>?_) Am
   refine Ca rfl 38 (.tmp 7) (.tmp 28) rfl w3.heap.size 0 ds rfl rfl 38 #[.slice none 0 0,.slice none 0 0,.slice none 0 0,.slice none 0 0,.slice none 0 0,.slice none 0 0,.slice none 0 0,.slice none 0 0,.slice none 0 0,.slice none 0 0,.slice none 0 0,.slice none 0 0,.slice none 0 0,.slice none 0 0,.slice none 0 0,.slice none 0 0,.slice none 0 0,.slice none 0 0,.slice none 0 0,.slice none 0 0,.slice none 0 0,.slice none 0 0,.slice none 0 0,.slice none 0 0,.slice none 0 0,.slice none 0 0,.slice none 0 0] (Aq.new w3 _ _) (De xb.1) (by rw[xb.1];exact Aj 27) xb.regs.one ?_
   have vf:An w3 ((w3.alloc (.cells #[(),(),(),(),(),(),(),(),(),(),(),(),(),(),(),(),(),(),(),(),(),(),(),(),(),(),()] 38)).setRow w3.heap.size (L0 #[(),(),(),(),(),(),(),(),(),(),(),(),(),(),(),(),(),(),(),(),(),(),(),(),(),(),()] 0 ds)):=An.setRow (An.alloc w3 _) (Aj _) _;have bi:Aq ((w3.alloc (.cells #[(),(),(),(),(),(),(),(),(),(),(),(),(),(),(),(),(),(),(),(),(),(),(),(),(),(),()] 38)).setRow w3.heap.size (L0 #[(),(),(),(),(),(),(),(),(),(),(),(),(),(),(),(),(),(),(),(),(),(),(),(),(),(),()] 0 ds)) w3.heap.size 38 (L0 #[(),(),(),(),(),(),(),(),(),(),(),(),(),(),(),(),(),(),(),(),(),(),(),(),(),(),()] 0 ds):=Aq.setRow (Aq.new w3 38 #[.slice none 0 0,.slice none 0 0,.slice none 0 0,.slice none 0 0,.slice none 0 0,.slice none 0 0,.slice none 0 0,.slice none 0 0,.slice none 0 0,.slice none 0 0,.slice none 0 0,.slice none 0 0,.slice none 0 0,.slice none 0 0,.slice none 0 0,.slice none 0 0,.slice none 0 0,.slice none 0 0,.slice none 0 0,.slice none 0 0,.slice none 0 0,.slice none 0 0,.slice none 0 0,.slice none 0 0,.slice none 0 0,.slice none 0 0,.slice none 0 0]) _;rw[Rk (by rw[xb.1];rfl)]at vf bi ⊢
   have HF:=A6 (Au bi (Au (xb.ext vf) (((An.drew w).trans bg).trans vf)));have ae:w.heap.size≤w3.heap.size:=bg.hsize;refine hK.out _ _ ⟨vf.cell (bg.cell x0),vf.cell (bg.cell x30),ap.ext vf⟩ (fun gx=>?_)
   clear hK K bb
   try simp only[Ac,Aa,Ab,Ao,A7,Ad,Ae]
   refine Bv (i:=23) (v:=x) rfl gx ?_
   refine wpAnyH_done (by kernel_rfl) ?_ _
   try go_wp2_with fail
   go_meet
   exact⟨w3,ds,x,ii,rfl,rfl,ae,A6 HF.out.1,A6 (Fd.lower HF.out.2.1 (show w.heap.size≤w.drew.heap.size from Aj _)),A6 UB,A6 HF.out.2.2⟩
  ·go_simp
   have jd:An w (w.drew.alloc (.cells #[(),(),(),(),(),(),(),(),(),(),(),(),(),(),(),(),(),(),(),(),(),(),(),(),(),(),()] 38)):=(An.drew w).to_alloc _;have y9:Aq (w.drew.alloc (.cells #[(),(),(),(),(),(),(),(),(),(),(),(),(),(),(),(),(),(),(),(),(),(),(),(),(),(),()] 38)) w.heap.size 38 #[.slice none 0 0,.slice none 0 0,.slice none 0 0,.slice none 0 0,.slice none 0 0,.slice none 0 0,.slice none 0 0,.slice none 0 0,.slice none 0 0,.slice none 0 0,.slice none 0 0,.slice none 0 0,.slice none 0 0,.slice none 0 0,.slice none 0 0,.slice none 0 0,.slice none 0 0,.slice none 0 0,.slice none 0 0,.slice none 0 0,.slice none 0 0,.slice none 0 0,.slice none 0 0,.slice none 0 0,.slice none 0 0,.slice none 0 0,.slice none 0 0]:=Aq.new w.drew _ _
   skip
   refine hK.out _ _ ⟨jd.cell x0,jd.cell x30,HB.out.ext jd⟩ (fun af=>?_)
   clear hK K aa
   try simp only[Ac,Aa,Ab,Ao,A7,Ad,Ae]
   refine wpAnyH_ready (rs:=[17]) (by kernel_rfl) (by simp) ?_
   refine Ai rfl (fun K hK=>?_) Am
   refine C8 rfl 148 #[.agg rs,.int .i64 k2,.slice T2 (t-f) (c-f)] rfl (by kernel_rfl) (fun v w'=>∃ds x ii,v=.tuple #[.agg ds,.int .i64 x]∧Fd w' (w.drew.alloc (.cells #[(),(),(),(),(),(),(),(),(),(),(),(),(),(),(),(),(),(),(),(),(),(),(),(),(),(),()] 38)).heap.size ds ii∧Vu rl k2 (l.drop f |>.take (t-f)) x ii∧An (w.drew.alloc (.cells #[(),(),(),(),(),(),(),(),(),(),(),(),(),(),(),(),(),(),(),(),(),(),(),(),(),(),()] 38)) w') ((HP.out _ jd).mono fun e w' ⟨ds,x,ii,h1,h2,h3,h4⟩=>⟨_,h1,ds,x,ii,rfl,h2,h3,h4⟩) ?_
   rintro v w3 ⟨ds,x,ii,rfl,xb,UB,bg⟩;have ap:=(HB.out.ext jd).ext bg;have qf:=y9.ext bg;refine hK.out _ _ ⟨bg.cell (jd.cell x0),bg.cell (jd.cell x30),ap⟩ (fun bb=>?_)
   clear hK K af
   try simp only[Ac,Aa,Ab,Ao,A7,Ad,Ae]
   refine Bv (i:=18) (v:=(.tuple #[.agg ds,.int .i64 x])) rfl bb ?_
   refine Bv (i:=19) (v:=(.agg ds)) rfl bb ?_
   refine Bv (i:=20) (v:=x) rfl bb ?_
   refine wpAnyH_ready (rs:=[22]) (by kernel_rfl) (by simp) ?_
   refine Ai rfl (fun K hK=>?_) Am
   refine Ca rfl 38 (.tmp 7) (.tmp 28) rfl w.heap.size 0 ds rfl rfl 38 #[.slice none 0 0,.slice none 0 0,.slice none 0 0,.slice none 0 0,.slice none 0 0,.slice none 0 0,.slice none 0 0,.slice none 0 0,.slice none 0 0,.slice none 0 0,.slice none 0 0,.slice none 0 0,.slice none 0 0,.slice none 0 0,.slice none 0 0,.slice none 0 0,.slice none 0 0,.slice none 0 0,.slice none 0 0,.slice none 0 0,.slice none 0 0,.slice none 0 0,.slice none 0 0,.slice none 0 0,.slice none 0 0,.slice none 0 0,.slice none 0 0] qf (De xb.1) (by rw[xb.1];exact Aj 27) xb.regs.one ?_
   have vf:An w (w3.setRow w.heap.size (L0 #[(),(),(),(),(),(),(),(),(),(),(),(),(),(),(),(),(),(),(),(),(),(),(),(),(),(),()] 0 ds)):=An.setRow (jd.trans bg) (Aj _) _;have bi:Aq (w3.setRow w.heap.size (L0 #[(),(),(),(),(),(),(),(),(),(),(),(),(),(),(),(),(),(),(),(),(),(),(),(),(),(),()] 0 ds)) w.heap.size 38 (L0 #[(),(),(),(),(),(),(),(),(),(),(),(),(),(),(),(),(),(),(),(),(),(),(),(),(),(),()] 0 ds):=Aq.setRow qf _;have dl:w.heap.size<(w.drew.alloc (.cells #[(),(),(),(),(),(),(),(),(),(),(),(),(),(),(),(),(),(),(),(),(),(),(),(),(),(),()] 38)).heap.size:=y9.lt;have zV:=xb.setRow (g:=w.heap.size) dl (L0 #[(),(),(),(),(),(),(),(),(),(),(),(),(),(),(),(),(),(),(),(),(),(),(),(),(),(),()] 0 ds);have Cq:Aq (w3.setRow w.heap.size (L0 #[(),(),(),(),(),(),(),(),(),(),(),(),(),(),(),(),(),(),(),(),(),(),(),(),(),(),()] 0 ds)) g 118 cs:=HB.out.ext vf;rw[Rk (by rw[xb.1];rfl)]at vf bi zV Cq ⊢
   have HF:=A6 (Au bi (Au zV vf));refine hK.out _ _ ⟨vf.cell x0,vf.cell x30,Cq⟩ (fun gx=>?_)
   clear hK K bb
   try simp only[Ac,Aa,Ab,Ao,A7,Ad,Ae]
   refine Bv (i:=23) (v:=x) rfl gx ?_
   refine wpAnyH_done (by kernel_rfl) ?_ _
   try go_wp2_with fail
   go_meet
   exact⟨w,ds,x,ii,rfl,rfl,Aj _,A6 HF.out.1,A6 (Fd.lower HF.out.2.1 (Nat.le_of_lt dl)),A6 UB,A6 HF.out.2.2⟩
 case rest=>
  obtain⟨p,ds,x,ii,rfl,rfl,hp,HBp,UC,Fy,Gx⟩:=hcut;have IV:=A6 (HB.out.ext Gx.out);have Hw:=A6 (G0 Gx.out (some g));clear x0 x30 AC HP HB;by_cases am:x=0
  ·subst am
   have Uw:Hid (∃i m,Gb k2=some (i,m)∧¬Ho rl i m ((l.drop f).take (t-f))∧ii=Lm rl i m ((l.drop f).take (t-f))):=A6 (by
    rcases Fy.out with h|⟨_,h⟩
    ·exact absurd rfl h.1
    ·exact h)
   have tz:=A6 UC.out.1;have cm:=A6 UC.out.regs.one;go_wp2_with (first
    |(refine wpList_load_row rfl 38 (.tmp 7) rfl p rfl 38 ds (0,0) _ HBp.out underlying38 rfl (De tz.out) ?_)
    |(refine Gd rfl 38 (.tmp 36) (.tmp 33) rfl g 36 ds rfl rfl 118 cs IV.out (De tz.out) (by rw[tz.out,HZ.out];decide) cm.out ?_))
   go_ret
   exact⟨0,rfl,Da Hw.out (Fq _ _ _),fun _=>rfl,fun _=>⟨ds,ii,Aq.setRow IV.out _,Fd.setRow UC.out rz _,Uw.out⟩⟩
  ·go_wp2_with fail
   go_ret
   exact⟨x,rfl,Hw.out,fun h=>by rcases Fy.out with h9|h9;exact absurd h h9.2;exact h9.1,fun h=>absurd h am⟩
def Nz (x:Int):Int:=if 97≤x∧x≤122 then x-32 else if 65≤x∧x≤90 then x+32 else x
theorem xB:∀n:Fin 26,bits .xor .i64 (97+(n.val:Int)) 32=65+(n.val:Int):=by decide +kernel
theorem J1o:∀n:Fin 26,bits .xor .i64 (65+(n.val:Int)) 32=97+(n.val:Int):=by decide +kernel
theorem sS {x:Int}(h1:97≤x)(h2:x≤122):bits .xor .i64 x 32=Nz x:=by
 have h:=xB ⟨(x-97).toNat,by omega⟩
 rw[show(97:Int)+(((⟨(x-97).toNat,by omega⟩:Fin 26).val:Nat):Int)=x by simp;omega]at h
 rw[h];unfold Nz;rw[if_pos ⟨h1,h2⟩];simp;omega
theorem yJ {x:Int}(h1:65≤x)(h2:x≤90):bits .xor .i64 x 32=Nz x:=by
 have h:=J1o ⟨(x-65).toNat,by omega⟩
 rw[show(65:Int)+(((⟨(x-65).toNat,by omega⟩:Fin 26).val:Nat):Int)=x by simp;omega]at h
 rw[h];unfold Nz;rw[if_neg (by omega),if_pos ⟨h1,h2⟩]
 simp;omega
theorem mM (x:Int)(w:World):Calls prog 112 #[.int .i64 x] w fun e w'=>e=.returned (.int .i64 (Nz x))∧w=w':=by
 go_enter func112,ntmps112
 go_wp2_with fail
 all_goals
  go_ret
  refine⟨?_,rfl⟩
  first
   |(rw[sS (by assumption) (by assumption)];rfl)
   |(rw[yJ (by assumption) (by assumption)];rfl)
   |(unfold Nz;rw[if_neg (by omega),if_neg (by omega)];rfl)
def Ry (l:List Int)(a k:Nat):List Int:=l.take a++((l.drop a).take k).map Nz++l.drop (a+k)
theorem pU {g n c a k:Nat}(hb:Aq w g 118 cs)(h0:cs[0]? = some (.slice A n c))(h1:cs[1]? = some (.int .i64 (a:Int)))(dx:cs[34]? = some v34)(AB:cs[66]? = some v66)(hl:Bj w A n c l)(hn:n≤200)(QT:a+k≤n):
 Calls prog 111 #[.pointer (some ⟨g,0,none⟩),.int .i64 (k:Int),.func (.func 112) #[] #[]] w fun e w'=>(∃u,e=.returned u)∧Ui w g cs l (Ry l a k) w':=by
 have N0:=trivial;exact K23
theorem Wz (x y:Int)(w:World)(hx : -1000000≤x∧x≤1000000)(hy:0≤y∧y≤1000000):Calls prog 113 #[.int .i64 x,.int .i64 y] w fun e w'=>e=.returned (.int .i64 (max 0 (min x (y-1))))∧w=w':=by
 have lg:IntKind.i64.wrap (y-1)=y-1:=IntWalk.i64_in _ (by omega)
 go_enter func113,ntmps113
 go_wp2_with fail
 all_goals
  go_ret
  refine⟨?_,rfl⟩
  show Ending.returned (Value.int .i64 _)=_
  first
   |(congr 2;omega)
   |(congr 2)
theorem Pw.one {g:Nat}{a:Int}{B:Option Addr}{d:Nat}(h:Pw w g cs A n c a rs rl k1 k2 k3 k4 k5 fk fa B d):∀k v,34≤k→cs[k]? = some v→v.oneCell'=true:=by
 intro k v hk hv;have ae:k<67:=by
  exact I127
 by_cases h1:k=34
 ·subst h1;rw[h.out]at hv;injection hv with hv;subst hv;rfl
 ·by_cases h2:k=35
  ·exact I134
  ·by_cases h3:k<63
   ·obtain⟨u,hu,C,m,e,rfl,_⟩:=h.oregs (k-36) (by omega)
    exact I108
   ·have h4:k=63∨k=64∨k=65∨k=66:=by omega
    rcases h4 with rfl|rfl|rfl|rfl
    ·exact I148
    ·exact I147
    ·exact I146
    ·rw[h.c66]at hv;injection hv with hv;subst hv;rfl
theorem pW {a k:Nat}(h:a+k≤l.length):(Ry l a k).length=l.length:=by
 unfold Ry;simp;omega
structure Ek (w:World)(b:Nat)(cs:Array Value)(m:List Int)(at_ md fk fa:Int)(rl:Nat→List Int)(e:List Gp):Prop where
 size:cs.size=67
 text:∃B q d,cs[34]? = some (.slice B q d)∧Ba w b B q d m
 oat:cs[35]? = some (.int .i64 at_)
 regs:∀j,j<27→∃v,cs[36+j]? = some v∧Bl w b v (rl j)
 c63:cs[63]? = some (.int .i64 fk)
 c64:cs[64]? = some (.int .i64 fa)
 c65:cs[65]? = some (.int .i64 md)
 edit:∃v,cs[66]? = some v∧Es w b v e
 far:∀B q d,cs[34]? = some (.slice B q d)→∀g',(Ak B q d).ownBlock=some g'→(∀j,j<27→∀v,cs[36+j]? = some v→v.ownBlock≠some g')∧∃v,cs[66]? = some v∧Es w (g'+1) v e
section
variable {w w':World} {b g:Nat} {cs:Array Value} {m:List Int} {at_ md fk fa:Int} {rl:Nat→List Int} {e:List Gp}
theorem Ek.one (h:Ek w b cs m at_ md fk fa rl e):∀k v,34≤k→cs[k]? = some v→v.oneCell'=true:=by
 intro k v hk hv;have ae:k<67:=by
  exact I127
 by_cases h1:k=34
 ·subst h1;obtain⟨B,q,d,h2,_⟩:=h.text;rw[h2]at hv;injection hv with hv;subst hv;rfl
 ·by_cases h2:k=35
  ·exact I134
  ·by_cases h3:k<63
   ·obtain⟨u,hu,C,m,e,rfl,_⟩:=h.regs (k-36) (by omega)
    exact I108
   ·have h4:k=63∨k=64∨k=65∨k=66:=by omega
    rcases h4 with rfl|rfl|rfl|rfl
    ·exact I148
    ·exact I147
    ·exact I146
    ·obtain⟨u,hu,O,k,c,xs,row,rfl,_⟩:=h.edit
     rw[hu]at hv;injection hv with hv;subst hv;rfl
theorem Ek.ext (h:Ek w b cs m at_ md fk fa rl e)(he:An w w'):Ek w' b cs m at_ md fk fa rl e:=
 {
  h with
  text:=let ⟨B,q,d,h1,h2⟩:=h.text;⟨B,q,d,h1,Bd.ext h2 he⟩
  regs:=fun j hj=>let ⟨v,h1,h2⟩:=h.regs j hj;⟨v,h1,h2.ext he⟩
  edit:=let ⟨v,h1,h2⟩:=h.edit;⟨v,h1,h2.ext he⟩
  far:=fun B q d dx g' cr=>let ⟨h1,v,h2,h3⟩:=h.far B q d dx g' cr;⟨h1,v,h2,h3.ext he⟩ }
theorem Bl.grown {v:Value}{l:List Int}(h:Bl w b v l)(hg:w.grownBy w' (some g))(hb:g<b):Bl w' b v l:=
 h.kept hg (fun k hk e=>by injection e with e;have:=(h.blk k hk).1;omega)
theorem Ba.grown {B:Option Addr}{q d:Nat}{l:List Int}(h:Ba w b B q d l)(hg:w.grownBy w' (some g))(hb:g<b):Ba w' b B q d l:=by
 refine Bd.kept h hg ?_
 cases hb:(Ak B q d).ownBlock with
 |none=>exact .inl rfl
 |some k=>exact .inr (fun e=>by injection e with e;have:=(Bd.blk h k hb).1;omega)
theorem Es.grown {v:Value}(h:Es w b v e)(hg:w.grownBy w' (some g))(hb:g<b):Es w' b v e:=
 h.kept hg (fun k e=>by injection e with e;omega)
theorem Ek.grown (h:Ek w b cs m at_ md fk fa rl e)(hg:w.grownBy w' (some g))(hb:g<b):Ek w' b cs m at_ md fk fa rl e:=
 {
  h with
  text:=let ⟨B,q,d,h1,h2⟩:=h.text;⟨B,q,d,h1,h2.grown hg hb⟩
  regs:=fun j hj=>let ⟨v,h1,h2⟩:=h.regs j hj;⟨v,h1,h2.grown hg hb⟩
  edit:=let ⟨v,h1,h2⟩:=h.edit;⟨v,h1,h2.grown hg hb⟩
  far:=fun B q d dx g' cr=>by
   obtain⟨h1,v,h2,h3⟩:=h.far B q d dx g' cr;obtain⟨B',q',d',h4,h5⟩:=h.text;rw[dx]at h4;injection h4 with h4;injection h4 with e1 e2 e3;subst e1;subst e2;subst e3;have:=(Bd.blk h5 g' cr).1;exact⟨h1,v,h2,h3.grown hg (by omega)⟩ }
theorem Bz {i k:Nat}{u:Value}(h:i≠k):(cs.setIfInBounds i u)[k]? = cs[k]? := Array.getElem?_setIfInBounds_ne h
theorem Kl {i:Nat}{u:Value}(h:i<cs.size):(cs.setIfInBounds i u)[i]? = some u:=by
 rw[Array.getElem?_setIfInBounds_self,if_pos h]
theorem Ek.setAt (h:Ek w b cs m at_ md fk fa rl e)(x:Int):Ek w b (cs.setIfInBounds 35 (.int .i64 x)) m x md fk fa rl e where
 size:=by simp[h.size]
 text:=by rw[Bz (by omega)];exact h.text
 oat:=Kl (by rw[h.size];omega)
 regs:=fun j hj=>by rw[Bz (by omega)];exact h.regs j hj
 c63:=by rw[Bz (by omega)];exact h.c63
 c64:=by rw[Bz (by omega)];exact h.c64
 c65:=by rw[Bz (by omega)];exact h.c65
 edit:=by rw[Bz (by omega)];exact h.edit
 far:=fun B q d dx g' cr=>by
  exact I46
theorem Ek.setMode (h:Ek w b cs m at_ md fk fa rl e)(x:Int):Ek w b (cs.setIfInBounds 65 (.int .i64 x)) m at_ x fk fa rl e where
 size:=by simp[h.size]
 text:=by rw[Bz (by omega)];exact h.text
 oat:=by rw[Bz (by omega)];exact h.oat
 regs:=fun j hj=>by rw[Bz (by omega)];exact h.regs j hj
 c63:=by rw[Bz (by omega)];exact h.c63
 c64:=by rw[Bz (by omega)];exact h.c64
 c65:=Kl (by rw[h.size];omega)
 edit:=by rw[Bz (by omega)];exact h.edit
 far:=fun B q d dx g' cr=>by
  exact I46
theorem Ek.setPut (h:Ek w b cs m at_ md fk fa rl e){B:Option Addr}{q d:Nat}{v:Value}{m':List Int}{e':List Gp}(ho:Ba w b B q d m')(he:Es w b v e')(zf:∀g',(Ak B q d).ownBlock=some g'→(∀j,j<27→∀v,cs[36+j]? = some v→v.ownBlock≠some g')∧Es w (g'+1) v e'):
 Ek w b ((cs.setIfInBounds 66 v).setIfInBounds 34 (.slice B q d)) m' at_ md fk fa rl e' where
 size:=by simp[h.size]
 text:=⟨B,q,d,Kl (by simp[h.size]),ho⟩
 oat:=by rw[Bz (by omega),Bz (by omega)];exact h.oat
 regs:=fun j hj=>by rw[Bz (by omega),Bz (by omega)];exact h.regs j hj
 c63:=by rw[Bz (by omega),Bz (by omega)];exact h.c63
 c64:=by rw[Bz (by omega),Bz (by omega)];exact h.c64
 c65:=by rw[Bz (by omega),Bz (by omega)];exact h.c65
 edit:=⟨v,by rw[Bz (by omega)];exact Kl (by rw[h.size];omega),he⟩
 far:=fun B' q' d' dx g' cr=>by
  rw[Kl (by simp[h.size])]at dx
  injection dx with dx;injection dx with e1 e2 e3;subst e1;subst e2;subst e3;obtain⟨h1,h2⟩:=zf g' cr;exact⟨fun j hj v hv=>by rw[Bz (by omega),Bz (by omega)]at hv;exact h1 j hj v hv,v,by rw[Bz (by omega)];exact Kl (by rw[h.size];omega),h2⟩
theorem Ek.setRegs (h:Ek w b cs m at_ md fk fa rl e){ds:Array Value}{co:Nat→List Int}(hr:Fd w b ds co)(zf:∀B q d,cs[34]? = some (.slice B q d)→∀g',(Ak B q d).ownBlock=some g'→∀j,j<27→∀v,ds[j]? = some v→v.ownBlock≠some g'):Ek w b (L0 cs 36 ds) m at_ md fk fa co e:=by
 have hz:36+ds.size≤cs.size:=by rw[hr.1,h.size];omega
 exact {
  size:=by rw[Q0 hz];exact h.size
  text:=by rw[D6 hz,if_pos (by omega)];exact h.text
  oat:=by rw[D6 hz,if_pos (by omega)];exact h.oat
  regs:=fun j hj=>by rw[D6 hz,if_neg (by omega),if_pos (by rw[hr.1];omega),show 36+j-36=j by omega];exact hr.2 j hj
  c63:=by rw[D6 hz,if_neg (by omega),if_neg (by rw[hr.1];omega)];exact h.c63
  c64:=by rw[D6 hz,if_neg (by omega),if_neg (by rw[hr.1];omega)];exact h.c64
  c65:=by rw[D6 hz,if_neg (by omega),if_neg (by rw[hr.1];omega)];exact h.c65
  edit:=by rw[D6 hz,if_neg (by omega),if_neg (by rw[hr.1];omega)];exact h.edit
  far:=fun B q d dx g' cr=>by
   rw[D6 hz,if_pos (by omega)]at dx
   obtain⟨_,v,h2,h3⟩:=h.far B q d dx g' cr;refine⟨fun j hj v hv=>?_,v,by rw[D6 hz,if_neg (by omega),if_neg (by rw[hr.1];omega)];exact h2,h3⟩
   rw[D6 hz,if_neg (by omega),if_pos (by rw[hr.1];omega),show 36+j-36=j by omega]at hv
   exact zf B q d dx g' cr j hj v hv }
theorem Pw.out' {n c d:Nat}{A B:Option Addr}{a k1 k2 k3 k4 k5:Int}{rs:Array Value}{l:List Int}(h:Pw w g cs A n c a rs rl k1 k2 k3 k4 k5 fk fa B d)(ho:Ba w (g+1) B n d l):Ek w (g+1) cs l a 0 fk fa rl [] where
 size:=h.size
 text:=⟨B,n,d,h.out,ho⟩
 oat:=h.oat
 regs:=h.oregs
 c63:=h.c63
 c64:=h.c64
 c65:=h.c65
 edit:=⟨_,h.c66,Es.nil _ _⟩
 far:=fun B' q' d' dx g' cr=>by
  rw[h.out]at dx;injection dx with dx;injection dx with e1 e2 e3;subst e1;subst e2;subst e3;exact⟨fun j hj v hv=>h.far j hj v hv g' cr,_,h.c66,Es.nil _ _⟩
end
structure Ds (w0:World)(g:Nat)(cs0:Array Value)(w:World)(cs:Array Value)(m:List Int)(at_ md fk fa:Int)(rl:Nat→List Int)(e:List Gp):Prop where
 blk:Aq w g 118 cs
 out:Ek w (g+1) cs m at_ md fk fa rl e
 same:∀k,k<34→cs[k]? = cs0[k]?
 grown:w0.grownBy w (some g)
section
variable {w0 w w':World} {g:Nat} {cs0 cs:Array Value} {m:List Int} {at_ md fk fa:Int} {rl:Nat→List Int} {e:List Gp}
theorem Ds.ext (h:Ds w0 g cs0 w cs m at_ md fk fa rl e)(he:An w w'):Ds w0 g cs0 w' cs m at_ md fk fa rl e:=
 ⟨h.blk.ext he,h.out.ext he,h.same,Da h.grown (G0 he _)⟩
theorem Ds.cell (h:Ds w0 g cs0 w cs m at_ md fk fa rl e){k:Nat}{v:Value}(hk:k<34)(hv:cs0[k]? = some v):w.cell? ⟨g,k,none⟩=some v:=by
 rw[h.blk.cell k,h.same k hk];exact hv
theorem Ds.oat (h:Ds w0 g cs0 w cs m at_ md fk fa rl e):w.cell? ⟨g,35,none⟩=some (.int .i64 at_):=(h.blk.cell 35).trans h.out.oat
theorem Ds.mode (h:Ds w0 g cs0 w cs m at_ md fk fa rl e):w.cell? ⟨g,65,none⟩=some (.int .i64 md):=(h.blk.cell 65).trans h.out.c65
theorem Ds.text (h:Ds w0 g cs0 w cs m at_ md fk fa rl e):∃B d,w.cell? ⟨g,34,none⟩=some (.slice B m.length d)∧Ba w (g+1) B m.length d m:=by
 obtain⟨B,q,d,h1,h2⟩:=h.out.text;have hq:m.length=q:=h2.ints.len;rw[hq];exact⟨B,d,(h.blk.cell 34).trans h1,h2⟩
theorem Ds.setAt (h:Ds w0 g cs0 w cs m at_ md fk fa rl e)(x:Int):Ds w0 g cs0 (w.setCell ⟨g,35,none⟩ x) (cs.setIfInBounds 35 (.int .i64 x)) m x md fk fa rl e:=
 ⟨h.blk.set_ 35 _,(h.out.grown (Fz w ⟨g,35,none⟩ _) (Bt g)).setAt x,fun k hk=>by rw[Bz (by omega)];exact h.same k hk,Da h.grown (Fz w ⟨g,35,none⟩ _)⟩
theorem Ds.setMode (h:Ds w0 g cs0 w cs m at_ md fk fa rl e)(x:Int):Ds w0 g cs0 (w.setCell ⟨g,65,none⟩ x) (cs.setIfInBounds 65 (.int .i64 x)) m at_ x fk fa rl e:=
 ⟨h.blk.set_ 65 _,(h.out.grown (Fz w ⟨g,65,none⟩ _) (Bt g)).setMode x,fun k hk=>by rw[Bz (by omega)];exact h.same k hk,Da h.grown (Fz w ⟨g,65,none⟩ _)⟩
theorem Ds.start {n c d:Nat}{A B:Option Addr}{a k1 k2 k3 k4 k5:Int}{rs:Array Value}{l:List Int}(hb:Aq w g 118 cs)(h:Pw w g cs A n c a rs rl k1 k2 k3 k4 k5 fk fa B d)(ho:Ba w (g+1) B n d l):Ds w g cs w cs l a 0 fk fa rl []:=
 ⟨hb,h.out' ho,fun _ _=>rfl,⟨rfl,rfl,rfl,Nat.le_refl _,fun _ _ _=>rfl⟩⟩
theorem Ds.put (h:Ds w0 g cs0 w cs m at_ md fk fa rl e){l x:List Int}(hp:Ui w g cs l x w'):∃cs' e',Ds w0 g cs0 w' cs' x at_ md fk fa rl e'∧G9 l x e':=by
 obtain⟨hg,B,q,b,O,k,z,e',h1,h2,h3,h4,h5⟩:=hp;have rz:=h.blk.lt;refine⟨_,e',⟨h1,(h.out.grown hg (Bt g)).setPut (Bd.lower h2 rz) (h3.lower rz) (fun g' cr=>⟨fun j hj v hv UE=>by
  obtain⟨v',nt,AF⟩:=h.out.regs j hj;rw[nt]at hv;injection hv with hv;subst hv;have:=(AF.blk g' UE).2;have:=(Bd.blk h2 g' cr).1;omega,h5 g' cr⟩),fun k hk=>?_,Da h.grown hg⟩,h4⟩
 rw[Bz (by omega),Bz (by omega)]
 exact h.same k hk
theorem Ds.done (h:Ds w0 g cs0 w cs m at_ md fk fa rl e){Ok:Prop}{Post:World→Array Value→Prop}(hp:Post w cs):Cv g w0 Ok Post (.returned (.int .i64 0)) w:=
 ⟨0,cs,rfl,h.grown,fun _=>rfl,fun _=>⟨h.blk,h.out.size,h.out.one,hp⟩⟩
theorem Ds.fail (h:Ds w0 g cs0 w cs m at_ md fk fa rl e){Ok:Prop}{Post:World→Array Value→Prop}{x:Int}(hx:x≠0)(ho:¬Ok):Cv g w0 Ok Post (.returned (.int .i64 x)) w:=
 ⟨x,cs,rfl,h.grown,fun h=>absurd h ho,fun h=>absurd h hx⟩
end
theorem An.turned {v0 w w':World}{g:Nat}(h:An v0 w)(hg:w.grownBy w' (some g))(hb:v0.heap.size≤g):An v0 w':=
 ⟨hg.os.trans (Below.os h),hg.tape.trans (Below.tape h),hg.output.trans (Below.output h),Nat.le_trans h.hsize hg.size,fun k hk=>(hg.block k (Nat.lt_of_lt_of_le hk h.hsize) (fun e=>by injection e with e;omega)).trans (Below.block h k hk)⟩
structure Ft (v0 w:World)(g:Nat)(cs:Array Value)(A:Option Addr)(n c a:Nat)(rs:Array Value)(rl:Nat→List Int)(k1 k2 k3 k4 k5 fk fa:Int)(l:List Int):Prop where
 blk:Aq w g 118 cs
 doer:∃B d,Pw w g cs A n c (a:Int) rs rl k1 k2 k3 k4 k5 fk fa B d∧Ba w (g+1) B n d l
 ext:An v0 w
 base:v0.heap.size≤g
 regs:Lp v0 rs rl
 line:Bj v0 A n c l
 cap:A=none→c=0
 len:n≤200
 place:a≤n-1
 nums:∀x∈l,(Lit.int .i64 x).wf=true
 cnt:0≤k1∧k1≤999
section
variable {v0 w w':World} {g:Nat} {cs:Array Value} {A:Option Addr} {n c a:Nat} {rs:Array Value} {rl:Nat→List Int} {k1 k2 k3 k4 k5 fk fa:Int} {l:List Int}
theorem Ft.mid (h:Ft v0 w g cs A n c a rs rl k1 k2 k3 k4 k5 fk fa l):Ds w g cs w cs l a 0 fk fa rl []:=
 let ⟨_,_,h1,h2⟩:=h.doer;Ds.start h.blk h1 h2
theorem Ft.wext (h:Ft v0 w g cs A n c a rs rl k1 k2 k3 k4 k5 fk fa l)(he:An w w'):Ft v0 w' g cs A n c a rs rl k1 k2 k3 k4 k5 fk fa l:=
 {
  h with
  blk:=h.blk.ext he
  doer:=let ⟨B,d,h1,h2⟩:=h.doer;⟨B,d,{ h1 with oregs:=fun j hj=>let ⟨v,h3,h4⟩:=h1.oregs j hj;⟨v,h3,h4.ext he⟩ },Bd.ext h2 he⟩
  ext:=h.ext.trans he }
theorem Ft.cells (h:Ft v0 w g cs A n c a rs rl k1 k2 k3 k4 k5 fk fa l):cs[0]? = some (.slice A n c)∧cs[1]? = some (.int .i64 (a:Int))∧(∀j,j<27→cs[2+j]? = rs[j]?)∧cs[29]? = some (.int .i64 k1)∧cs[30]? = some (.int .i64 k2)∧cs[31]? = some (.int .i64 k3)∧cs[32]? = some (.int .i64 k4)∧cs[33]? = some (.int .i64 k5):=
 let ⟨_,_,h1,_⟩:=h.doer;⟨h1.text,h1.at_,h1.regs,h1.c29,h1.c30,h1.c31,h1.c32,h1.c33⟩
end
def J5m (rl:Nat→List Int)(k2:Int)(f t:Nat)(x:List Int):Prop:=f<t→∃i m,Gb k2=some (i,m)∧¬Ho rl i m x
def Sj (rl:Nat→List Int)(k2:Int)(f t:Nat)(x:List Int)(co:Nat→List Int):Prop:=(f=t→co=rl)∧(f<t→∃i m,Gb k2=some (i,m)∧¬Ho rl i m x∧co=Lm rl i m x)
def Lu (l:List Int)(a:Int)(rl:Nat→List Int)(k2 k3:Int)(f t:Nat)(whole:Bool)(m:List Int)(at_ md:Int)(co:Nat→List Int)(e:List Gp):Prop:=
 (f=t→k3=99)∧Sj rl k2 f t ((l.drop f).take (t-f)) co∧
 (
  (k3=121∧m=l∧md=0∧e=[]∧at_=(if whole=true then a else min (f:Int) a))∨
  (k3≠121∧m=l.take f++l.drop t∧G9 l m e∧((k3=99∧at_=f∧md=1)∨(k3≠99∧md=0∧at_=max 0 (min (f:Int) ((m.length:Int)-1))))))
def Ye (l:List Int)(rl:Nat→List Int)(k2 k3:Int)(f t:Nat):Prop:=(f=t→k3=99)∧J5m rl k2 f t ((l.drop f).take (t-f))
def fY (g:Nat)(l:List Int)(a:Int)(rl:Nat→List Int)(k2 k3 fk fa:Int)(f t:Nat)(whole:Bool)(w:World)(cs:Array Value):Prop:=
 ∃m at_ md co e,Ek w (g+1) cs m at_ md fk fa co e∧Lu l a rl k2 k3 f t whole m at_ md co e
theorem kW {w0 w:World}{g n c f t q d:Nat}{cs0 cs:Array Value}{m l x:List Int}{at_ md fk fa:Int}{e:List Gp}(h:Ds w0 g cs0 w cs m at_ md fk fa rl e)(h0:cs0[0]? = some (.slice A n c))(hl:Bj w A n c l)(hx:Bj w T q d x)(hT:T=none→d=0)
 (gi:f≤t) (pj:t≤n) (hn:n≤200) (hm:q≤3000):
 Calls prog 116 #[.pointer (some ⟨g,0,none⟩),.int .i64 (f:Int),.int .i64 (t:Int),.slice T q d] w fun en w'=>(∃u,en=.returned u)∧∃cs' e',Ds w0 g cs0 w' cs' (l.take f++x++l.drop t) at_ md fk fa rl e'∧G9 l (l.take f++x++l.drop t) e':=by
 obtain⟨B,_,_,dx,_⟩:=h.out.text;obtain⟨v66,AB,_⟩:=h.out.edit;exact(Wp h.blk ((h.same 0 (by omega)).trans h0) dx AB hl hx hT gi pj hn hm).mono fun en w' ⟨h1,h2⟩=>⟨h1,h.put h2⟩
theorem vH {w0 w:World}{cs0 cs rs:Array Value}{m l:List Int}{at_ md fk fa k2:Int}{rl Y6:Nat→List Int}{e:List Gp}(h:Ds w0 g cs0 w cs m at_ md fk fa Y6 e)(h0:cs0[0]? = some (.slice A n c))(mh:cs0[30]? = some (.int .i64 k2))(fc:∀j,j<27→cs0[2+j]? = rs[j]?)(hr:Lp w rs rl)(hl:Bj w A n c l)(hA:A=none→c=0)(gi:f≤t)(pj:t≤n)(hn:n≤200):
 Calls prog 115 #[.pointer (some ⟨g,0,none⟩),.int .i64 (f:Int),.int .i64 (t:Int)] w fun en w'=>∃x,en=.returned (.int .i64 x)∧w.grownBy w' (some g)∧((∃i m,Gb k2=some (i,m)∧¬Ho rl i m ((l.drop f).take (t-f)))→x=0)∧(x=0→∃cs' co,Ds w0 g cs0 w' cs' m at_ md fk fa co e∧∃i m,Gb k2=some (i,m)∧¬Ho rl i m ((l.drop f).take (t-f))∧co=Lm rl i m ((l.drop f).take (t-f))):=by
 refine(zZ h.blk h.out.size ((h.same 0 (by omega)).trans h0) ((h.same 30 (by omega)).trans mh) (fun j hj=>(h.same _ (by omega)).trans (fc j hj)) hr hl hA gi pj hn).mono ?_
 rintro en w' ⟨x,h1,h2,h3,h4⟩;refine⟨x,h1,h2,h3,fun hx=>?_⟩
 obtain⟨ds,co,hb,hR,hO⟩:=h4 hx;have rz:=h.blk.lt;refine⟨_,co,⟨hb,(h.out.grown h2 (Bt g)).setRegs (hR.lower rz) (fun B q d dx g' cr j hj v hv UE=>by
  obtain⟨v',nt,AF⟩:=hR.2 j hj;rw[nt]at hv;injection hv with hv;subst hv;have:=(AF.blk g' UE).1;obtain⟨B',q',d',h4,h5⟩:=h.out.text;rw[dx]at h4;injection h4 with h4;injection h4 with e1 e2 e3;subst e1;subst e2;subst e3;have:=(Bd.blk h5 g' cr).2;omega),fun k hk=>?_,Da h.grown h2⟩,hO⟩
 rw[D6 (by rw[hR.1,h.out.size];decide),if_pos (by omega)]
 exact h.same k hk
theorem Rm {v0 w:World}{g n c f t a:Nat}{whole:Bool}(h:Ft v0 w g cs A n c a rs rl k1 k2 k3 k4 k5 fk fa l)(gi:f≤t)(pj:t≤n)(ve:k3=100∨k3=99∨k3=121):
 Calls prog 74 #[.pointer (some ⟨g,0,none⟩),.int .i64 (f:Int),.int .i64 (t:Int),.bool whole] w (Cv g w (Ye l rl k2 k3 f t) (fY g l a rl k2 k3 fk fa f t whole)):=by
 obtain⟨h0,h1,fc,qg,mh,pv,df,lh⟩:=h.cells;have Qi:Hid (∀wx,An w wx→Calls prog 115 #[.pointer (some ⟨g,0,none⟩),.int .i64 (f:Int),.int .i64 (t:Int)] wx fun en w'=>∃x,en=.returned (.int .i64 x)∧wx.grownBy w' (some g)∧((∃i m,Gb k2=some (i,m)∧¬Ho rl i m ((l.drop f).take (t-f)))→x=0)∧(x=0→∃cs' co,Ds w g cs w' cs' l a 0 fk fa co []∧∃i m,Gb k2=some (i,m)∧¬Ho rl i m ((l.drop f).take (t-f))∧co=Lm rl i m ((l.drop f).take (t-f)))):=A6 fun wx he=>
  vH (h.mid.ext he) h0 mh fc (h.regs.ext (h.ext.trans he)) (h.line.ext (h.ext.trans he)) h.cap gi pj h.len
 have KZ:Hid (∀wx csx m at_ md rlx e,Ds w g cs wx csx m at_ md fk fa rlx e→Calls prog 116 #[.pointer (some ⟨g,0,none⟩),.int .i64 (f:Int),.int .i64 (t:Int),.slice none 0 0] wx fun en w'=>(∃u,en=.returned u)∧∃cs' e',Ds w g cs w' cs' (l.take f++l.drop t) at_ md fk fa rlx e'∧G9 l (l.take f++l.drop t) e'):=A6 (by
  intro wx csx m at_ md rlx e hm;have h:=kW hm h0 (h.line.ext (h.ext.turned hm.grown h.base)) (Ba.ints (Ba.nil wx 0)) (fun _=>rfl) gi pj h.len (by omega)
  rw[List.append_nil]at h;exact h)
 have HM:=A6 h.mid;have HC:Hid (cs[1]? = some (.int .i64 (a:Int))∧cs[31]? = some (.int .i64 k3)):=A6 ⟨h1,pv⟩;have HL:Hid (l.length=n∧n≤200):=A6 ⟨h.line.len,h.len⟩;have HN:Hid ((l.take f++l.drop t).length≤200):=A6 (by have:=HL.out;simp;omega)
 have x31:w.cell? ⟨g,31,none⟩=some (.int .i64 k3):=HM.out.cell (by omega) HC.out.2
 have j7:f≤1000000:=by have:=h.len;omega
 obtain⟨M,hM⟩:∃M,l.take f++l.drop t=M:=⟨_,rfl⟩;rw[hM]at KZ HN;have zg:=A6 hM;clear h h0 h1 fc qg mh pv df lh hM;go_enter func74,ntmps74
 by_cases FI:f=t
 case pos=>
  subst FI;by_cases hk:k3=99
  case neg=>
   have IY:(k3 !=99)=true:=by simp[hk]
   go_wp2_with fail
   go_ret
   exact HM.out.fail (by decide) (fun h=>hk (h.1 rfl))
  case pos=>
   subst hk;go_wp2_with fail
   refine(KZ.out _ _ _ _ _ _ _ HM.out).mono ?_
   rintro en w1 ⟨⟨u,rfl⟩,cs1,e1,dm,f6⟩;have mi:=A6 dm;have vh:=A6 f6;have y31:w1.cell? ⟨g,31,none⟩=some (.int .i64 99):=dm.cell (by omega) HC.out.2
   have c65:=dm.mode;have f65:=dm.blk.frozen 65;have ej:=dm.setMode 0;obtain⟨B,d,c34,ho⟩:=ej.text;have c35:=ej.oat;have f35:=ej.blk.frozen 35;clear ho;obtain⟨L,hL⟩:∃L,M.length=L:=⟨_,rfl⟩;have UF:L≤200:=by rw[←hL];exact HN.out
   have R0:=A6 hL;rw[hL]at c34;have eu:=A6 ej;clear dm f6 ej hL;go_wp2_with fail
   refine(Wz (f:Int) (L:Int) _ (by omega) (by omega)).mono ?_
   rintro en w2 ⟨rfl,rfl⟩;obtain⟨z,hz⟩:∃z:Int,max 0 (min (f:Int) ((L:Int)-1))=z:=⟨_,rfl⟩;rw[hz];have dt:=eu.out.setAt z;have z31:=dt.cell (k:=31) (by omega) HC.out.2
   have d65:=dt.mode;have g65:=dt.blk.frozen 65;have kf:=dt.setMode 1;have d35:=kf.oat;have g35:=kf.blk.frozen 35;have qh:=A6 (kf.setAt (f:Int));have HZ:=A6 hz;clear dt kf hz mi eu;go_wp2_with fail
   go_ret
   exact qh.out.done ⟨_,_,_,_,_,qh.out.out,fun _=>rfl,⟨fun _=>rfl,fun h=>absurd h (by omega)⟩,.inr ⟨by decide,zg.out.symm,vh.out,.inl ⟨rfl,rfl,rfl⟩⟩⟩
 case neg=>
  have ae:f<t:=by omega
  have HT:=A6 ae;have hx:((f:Int)==(t:Int))=false:=by simp;omega
  go_wp2_with fail
  refine(Qi.out _ (An.refl w)).mono ?_
  rintro en w0 ⟨x,rfl,JB,cw,am⟩;by_cases Tt:x=0
  case neg=>
   have HF:Hid (Cv g w (Ye l rl k2 k3 f t) (fY g l a rl k2 k3 fk fa f t whole) (.returned (.int .i64 x)) w0):=A6 ⟨x,cs,rfl,JB,fun h=>cw (h.2 HT.out),fun h=>absurd h Tt⟩
   clear cw am JB;go_wp2_with fail
   go_ret
   exact HF.out
  subst Tt;obtain⟨cs0,Y6,gz,LA⟩:=am rfl;have RA:Hid (Sj rl k2 f t ((l.drop f).take (t-f)) Y6):=A6 ⟨fun h=>absurd h FI,fun _=>LA⟩
  have zh:=A6 gz;have u31:w0.cell? ⟨g,31,none⟩=some (.int .i64 k3):=gz.cell (by omega) HC.out.2
  have u1:w0.cell? ⟨g,1,none⟩=some (.int .i64 (a:Int)):=gz.cell (by omega) HC.out.1
  have u35:=gz.oat;have v35:=gz.blk.frozen 35;clear cw am JB gz LA HM Qi x31;rcases ve with rfl|rfl|rfl
  ·have N0:=trivial;exact K38
  ·have N1:=trivial;exact K38
  ·cases whole
   ·have qh:=A6 (zh.out.setAt (min (f:Int) (a:Int)))
    go_wp2_with fail
    all_goals
     go_ret
     exact qh.out.done ⟨_,_,_,_,_,qh.out.out,fun h=>absurd h FI,RA.out,.inl ⟨rfl,rfl,rfl,rfl,rfl⟩⟩
   ·go_wp2_with fail
    go_ret
    exact zh.out.done ⟨_,_,_,_,_,zh.out.out,fun h=>absurd h FI,RA.out,.inl ⟨rfl,rfl,rfl,rfl,rfl⟩⟩
def Th (v:Int):Option (Int×Int):=
 if v=120 then some (100,108)else if v=88 then some (100,104)else if v=115 then some (99,108)else if v=83 then some (99,99)else if v=67 then some (99,36)else if v=68 then some (100,36)else if v=89 then some (121,121)else none
theorem J1n (w:World)(t t':TypeId)(cs cs':Array Value):Aq ((w.alloc (.cells cs t)).alloc (.cells cs' t')) (w.heap.size+1) t' cs':=by
 have:=Aq.new (w.alloc (.cells cs t)) t' cs'
 rwa[World.size_alloc]at this
theorem nB {k1 k2 k4 k5:Int}(w:World):Calls prog 71 #[.agg #[k1,k2,(0:Int),k4,k5]] w fun e w'=>(∃o v b,e=.returned (.tuple #[.agg #[k1,k2,.int .i64 o,.int .i64 v,k5],.bool b])∧((b=true∧Th k4=some (o,v))∨(b=false∧Th k4=none∧o=0∧v=k4)))∧An w w':=by
 go_enter func71,ntmps71
 go_wp2_with fail
 ·have hk:k4=120:=by simpa using ‹(k4==120)=true›
  subst hk;refine bodyPost_ret (v:=.tuple #[.agg #[k1,k2,(100:Int),(108:Int),k5],true]) ?_ rfl ⟨⟨_,_,_,rfl,.inl ⟨rfl,by decide⟩⟩,(An.alloc _ _).to_alloc _⟩
  exact I8
 ·have hk:k4=88:=by simpa using ‹(k4==88)=true›
  subst hk;refine bodyPost_ret (v:=.tuple #[.agg #[k1,k2,(100:Int),(104:Int),k5],true]) ?_ rfl ⟨⟨_,_,_,rfl,.inl ⟨rfl,by decide⟩⟩,(An.alloc _ _).to_alloc _⟩
  exact I8
 ·have hk:k4=115:=by simpa using ‹(k4==115)=true›
  subst hk;refine bodyPost_ret (v:=.tuple #[.agg #[k1,k2,(99:Int),(108:Int),k5],true]) ?_ rfl ⟨⟨_,_,_,rfl,.inl ⟨rfl,by decide⟩⟩,(An.alloc _ _).to_alloc _⟩
  exact I8
 ·have hk:k4=83:=by simpa using ‹(k4==83)=true›
  subst hk;refine bodyPost_ret (v:=.tuple #[.agg #[k1,k2,(99:Int),(99:Int),k5],true]) ?_ rfl ⟨⟨_,_,_,rfl,.inl ⟨rfl,by decide⟩⟩,(An.alloc _ _).to_alloc _⟩
  exact I8
 ·have hk:k4=67:=by simpa using ‹(k4==67)=true›
  subst hk;refine bodyPost_ret (v:=.tuple #[.agg #[k1,k2,(99:Int),(36:Int),k5],true]) ?_ rfl ⟨⟨_,_,_,rfl,.inl ⟨rfl,by decide⟩⟩,(An.alloc _ _).to_alloc _⟩
  exact I8
 ·have hk:k4=68:=by simpa using ‹(k4==68)=true›
  subst hk;refine bodyPost_ret (v:=.tuple #[.agg #[k1,k2,(100:Int),(36:Int),k5],true]) ?_ rfl ⟨⟨_,_,_,rfl,.inl ⟨rfl,by decide⟩⟩,(An.alloc _ _).to_alloc _⟩
  exact I8
 ·have hk:k4=89:=by simpa using ‹(k4==89)=true›
  subst hk;refine bodyPost_ret (v:=.tuple #[.agg #[k1,k2,(121:Int),(121:Int),k5],true]) ?_ rfl ⟨⟨_,_,_,rfl,.inl ⟨rfl,by decide⟩⟩,(An.alloc _ _).to_alloc _⟩
  exact I8
 ·refine bodyPost_ret (v:=.tuple #[.agg #[k1,k2,(0:Int),k4,k5],false]) ?_ rfl ⟨⟨_,_,_,rfl,.inr ⟨rfl,?_,rfl,rfl⟩⟩,(An.alloc _ _).to_alloc _⟩
  ·exact I8
  ·unfold Th
   simp_all
def J3 (fk fa v arg:Int):Option (Int×Int×Int×Int):=
 if v=102∨v=70∨v=116∨v=84 then some (v,arg,v,arg)
 else if v=59 then(if fk=0 then none else some (fk,fa,fk,fa))
 else if v=44 then(if fk=0 then none else some (bits .xor .i64 fk 32,fa,fk,fa))
 else some (v,arg,fk,fa)
theorem Hh {fn:Func}{p q r:Tmp}{ty CU:TypeId}(h:fn.results=#[.cell p ty,.cell q CU,.tmp r])(tmps:Array Value)(w:World)(g g':Nat)(t t':TypeId)(cs cs':Array Value)(fr RF:Nat×Nat)(d d':TypeDesc)(v:Value)
 (hp:tmps.getD p undef=.pointer (some ⟨g,0,none⟩)) (hq:tmps.getD q undef=.pointer (some ⟨g',0,none⟩)) (hr:tmps.getD r undef=v) (hg:w.heap[g]? = some (.cells cs t fr)) (cr:w.heap[g']? = some (.cells cs' t' RF))
 (hu:P.underlying ty=some d) (hd:(match d with|.struct _|.array _ _=>true|_=>false)=true) (hi:(P.info? ty).map (·.size)=some cs.size)
 (CV:P.underlying CU=some d') (el:(match d' with|.struct _|.array _ _=>true|_=>false)=true) (hi':(P.info? CU).map (·.size)=some cs'.size):
 (results fn tmps).run P w=.ok (.tuple #[.agg cs,.agg cs',v]) w:=by
 have ji:tmps[p]?.getD undef=.pointer (some ⟨g,0,none⟩):=by simpa using hp
 exact I35
theorem Hp {g t:Nat}{a b c:Value}(h:Aq w g t #[a,b,c]):w.cell? ⟨g,0,none⟩=some a∧w.cell? ⟨g,1,none⟩=some b∧w.cell? ⟨g,2,none⟩=some c:=⟨h.cell 0,h.cell 1,h.cell 2⟩
theorem Fl:(prog.info? 185).map (·.size)=some 3:=by kernel_rfl
theorem Dz:(prog.info? 36).map (·.size)=some 2:=by kernel_rfl
theorem eU (w:World)(fk fa k1 k2 k3 k4 k5:Int):∃W,W=(((((w.alloc (.cells #[fk,fa] 36)).alloc (.cells #[k1,k2,k3,k4,k5] 62)).alloc (.cells #[(0:Int),(0:Int),(0:Int)] 185)).alloc (.cells #[(0:Int),(0:Int)] 36)).alloc (.cells #[k4,k1,k5] 185))∧An w W∧
 Aq W (w.heap.size) 36 #[.int .i64 fk,.int .i64 fa]∧Aq W (w.heap.size+1) 62 #[.int .i64 k1,.int .i64 k2,.int .i64 k3,.int .i64 k4,.int .i64 k5]∧Aq W (w.heap.size+1+1) 185 #[.int .i64 0,.int .i64 0,.int .i64 0]∧Aq W (w.heap.size+1+1+1) 36 #[.int .i64 0,.int .i64 0]∧Aq W (w.heap.size+1+1+1+1) 185 #[.int .i64 k4,.int .i64 k1,.int .i64 k5]:=by
 have h1:=Aq.new w 36 #[.int .i64 fk,.int .i64 fa];have x1:=An.alloc w (.cells #[fk,fa] 36);have z1:(w.alloc (.cells #[fk,fa] 36)).heap.size=w.heap.size+1:=by simp
 generalize w.alloc (.cells #[fk,fa] 36)=W1 at*;have h2:=Aq.new W1 62 #[.int .i64 k1,.int .i64 k2,.int .i64 k3,.int .i64 k4,.int .i64 k5];have x2:=An.alloc W1 (.cells #[k1,k2,k3,k4,k5] 62);rw[z1]at h2;have z2:(W1.alloc (.cells #[k1,k2,k3,k4,k5] 62)).heap.size=w.heap.size+1+1:=by simp[z1]
 generalize W1.alloc (.cells #[k1,k2,k3,k4,k5] 62)=W2 at*;have h3:=Aq.new W2 185 #[.int .i64 0,.int .i64 0,.int .i64 0];have x3:=An.alloc W2 (.cells #[(0:Int),(0:Int),(0:Int)] 185);rw[z2]at h3;have z3:(W2.alloc (.cells #[(0:Int),(0:Int),(0:Int)] 185)).heap.size=w.heap.size+1+1+1:=by simp[z2]
 generalize W2.alloc (.cells #[(0:Int),(0:Int),(0:Int)] 185)=W3 at*;have h4:=Aq.new W3 36 #[.int .i64 0,.int .i64 0];have x4:=An.alloc W3 (.cells #[(0:Int),(0:Int)] 36);rw[z3]at h4;have z4:(W3.alloc (.cells #[(0:Int),(0:Int)] 36)).heap.size=w.heap.size+1+1+1+1:=by simp[z3]
 generalize W3.alloc (.cells #[(0:Int),(0:Int)] 36)=W4 at*;have h5:=Aq.new W4 185 #[.int .i64 k4,.int .i64 k1,.int .i64 k5];have x5:=An.alloc W4 (.cells #[k4,k1,k5] 185);exact I49
theorem Nx (w:World):Calls prog 107 #[.agg #[fk,fa],.agg #[k1,k2,k3,k4,k5]] w fun e w'=>
 (∃mk ma zk za er:Int,e=.returned (.tuple #[.agg #[mk,k1,ma],.agg #[zk,za],er])∧((er=0∧J3 fk fa k4 k5=some (mk,ma,zk,za))∨(er=5∧J3 fk fa k4 k5=none)))∧An w w':=by
 obtain⟨W0,hW,hx,ak,ap,bn,cg,ia⟩:=eU w fk fa k1 k2 k3 k4 k5;have HX:=A6 hx;have B2:=A6 ak;have B3:=A6 ap;have B4:=A6 bn;have B5:=A6 cg;have B7:=A6 ia;have HW:=A6 hW;clear hx ak ap bn cg ia hW;go_enter func107,ntmps107
 go_upto_region 2 with fail
 have hw:=HW.out;change Code.wp _ _ _ _ (((((w.alloc (.cells #[fk,fa] 36)).alloc (.cells #[k1,k2,k3,k4,k5] 62)).alloc (.cells #[(0:Int),(0:Int),(0:Int)] 185)).alloc (.cells #[(0:Int),(0:Int)] 36)).alloc (.cells #[k4,k1,k5] 185));rw[←hw];clear hw HW;obtain⟨x0,x1⟩:=Fh B2.out;obtain⟨y0,y1,y2,y3,y4⟩:=Vs B3.out;obtain⟨z0,z1,z2⟩:=Hp B7.out;go_wp2_with fail
 ·have N0:=trivial;exact K3
 ·have N1:=trivial;exact K3
 ·have N2:=trivial;exact K3
 ·have N3:=trivial;exact K3
 ·have N0:=trivial;exact K5
 ·have N0:=trivial;exact K1
 ·have N1:=trivial;exact K5
 ·have N1:=trivial;exact K1
 ·have N2:=trivial;exact K5
theorem pT {a:Int}(w:World)(h:¬(n≤200∧0≤a∧a≤max 0 ((n:Int)-1)))(hn:n≤maxLen):
 Calls prog 48 #[.agg #[.slice A n c,a]] w fun e w'=>∃er,er≠0∧e=.returned (.int .i64 er)∧An w w':=by
 have hx:=A6 (An.alloc w (.cells #[.slice A n c,a] 32));unfold maxLen at hn;have lg:IntKind.i64.wrap ((n:Int)-1)=(n:Int)-1:=IntWalk.i64_in _ (by omega)
 go_enter func48,ntmps48
 go_wp2_with fail
 all_goals first
  |(go_ret;exact⟨2,by decide,rfl,hx.out⟩)
  |(go_ret;exact⟨1,by decide,rfl,hx.out⟩)
  |(exfalso;omega)
theorem J4x {a fk fa k1 k2 k3 k4 k5:Int}{Ok:Prop}{Post:World→Array Value→Prop}(ky:n≤maxLen)(h:¬(n≤200∧0≤a∧a≤max 0 ((n:Int)-1))∨¬(0≤k1∧k1≤999))(du:¬Ok):
 Calls prog 28 #[.agg #[.slice A n c,a],.agg rs,.agg #[fk,fa],.agg #[k1,k2,k3,k4,k5]] w (rP w Ok Post):=by
 have HC:Hid (∀w,Calls prog 48 #[.agg #[.slice A n c,a]] w fun e w'=>∃er,(er=0→¬(0≤k1∧k1≤999))∧e=.returned (.int .i64 er)∧An w w'):=A6 fun w=>by
  by_cases hc:n≤200∧0≤a∧a≤max 0 ((n:Int)-1)
  ·exact(Xz w hc.1 hc.2.1 hc.2.2).mono fun e w' ⟨h1,h2⟩=>⟨0,fun _=>h.resolve_left (fun hh=>hh hc),h1,h2⟩
  ·exact(pT w hc ky).mono fun e w' ⟨er,h1,h2,h3⟩=>⟨er,fun hh=>absurd hh h1,h2,h3⟩
 have ns:=A6 du;obtain⟨w0,me,am,a9,al,ak,ap,bn⟩:=dL w A n c a fk fa k1 k2 k3 k4 k5 rs;have HX:=A6 am;have B0:=A6 a9;have B3:=A6 ap;have B4:=A6 bn;have HW:=A6 me;clear am a9 al ak ap bn me h du ky;go_enter func28,ntmps28
 go_upto_region 1 with fail
 have hw:=HW.out;unfold Gq at hw;change Code.wp _ _ _ _ (((((w.alloc (.cells #[.slice A n c,a] 32)).alloc (.cells rs 38)).alloc (.cells #[fk,fa] 36)).alloc (.cells #[k1,k2,k3,k4,k5] 62)).alloc (.cells Gq 77));unfold Gq;rw[←hw];clear hw HW;obtain⟨x0,x1⟩:=Fh B0.out;go_wp2_with fail
 refine(HC.out _).mono ?_
 rintro e w1 ⟨er,ey,rfl,aj⟩;have C3:=A6 (B3.out.ext aj);have C4:=A6 (B4.out.ext aj);have CX:=A6 (HX.out.trans aj);have FD:=A6 ey;clear x0 x1 B0 B3 B4 HX aj HC ey;by_cases h0:er=0
 ·subst h0
  have hk:=FD.out rfl;obtain⟨y0,y1,y2,y3,y4⟩:=Vs C3.out;have cf:k1<0∨999<k1:=by omega
  clear FD hk;go_wp2_with (refine wpList_store_row rfl 77 (.tmp 8) _ rfl (w.heap.size+1+1+1+1) Gq rfl rfl 77 Gq C4.out (Hv rfl) rfl Ss ?_)
  all_goals first
   |(exfalso;omega)
   |(
    have dp:=C4.out.setRow Gq;refine bodyPost_ret (v:=.tuple #[.agg Gq,(1:Int)]) ?_ rfl ⟨An.setRow CX.out (by omega) _,.inl ⟨ns.out,1,by decide,rfl⟩⟩
    exact Eu rfl _ _ (w.heap.size+1+1+1+1) 77 _ _ _ _ rfl rfl dp underlying77 rfl (Hv rfl))
 ·clear FD
  go_wp2_with (refine wpList_store_row rfl 77 (.tmp 8) _ rfl (w.heap.size+1+1+1+1) Gq rfl rfl 77 Gq C4.out (Hv rfl) rfl Ss ?_)
  have dp:=C4.out.setRow Gq;refine bodyPost_ret (v:=.tuple #[.agg Gq,.int .i64 er]) ?_ rfl ⟨An.setRow CX.out (by omega) _,.inl ⟨ns.out,er,h0,rfl⟩⟩
  exact Eu rfl _ _ (w.heap.size+1+1+1+1) 77 _ _ _ _ rfl rfl dp underlying77 rfl (Hv rfl)
theorem Ck {ops:Array Oper}{o:Oper}{a:Act}{K:Act→World→Prop}{Q:Exit→Act→World→Prop}{E:Prop}{ars:Array Operand}{tys:Array TypeId}(hw:Bu o (yielded ops a.tmps)=true)
 (f:FuncId) (args:Array Value) (ho:o.op=.call { callee:=.value (.func f),args:=ars,argTypes:=tys }) (de:(execOp a.eval o).run P w=.ok (.enter f args) w) (R:Value→World→Prop)
 (hc:Calls P f args w fun e w'=>∃v,e=.returned v∧R v w') (h:∀v w',R v w'→K (a.put o.dst v) w'):if Bu o (yielded ops a.tmps)=true then Oper.wp P o a w K Q else E:=by
 rw[if_pos hw];exact I17
def Rw (l:List Int)(a k:Nat)(x:Int):List Int:=l.take a++List.replicate k x++l.drop (a+k)
theorem J5h {g bx:Nat}{k5:Int}(hb:Aq w g 118 cs)(lh:cs[33]? = some (.int .i64 k5))(qk:Aq w bx 116 #[.pointer (some ⟨g,0,none⟩)])(x:Int):
 Calls prog 114 #[.int .i64 x,.pointer (some ⟨bx,0,none⟩)] w fun e w'=>e=.returned (.int .i64 k5)∧w=w':=by
 have x33:w.cell? ⟨g,33,none⟩=some (.int .i64 k5):=(hb.cell 33).trans lh;have z0:w.cell? ⟨bx,0,none⟩=some (.pointer (some ⟨g,0,none⟩)):=qk.cell 0;clear hb lh qk;go_enter func114,ntmps114
 go_wp2_with fail
 go_ret
 exact⟨rfl,rfl⟩
theorem jS {g n c a k bx:Nat}{k5:Int}(hb:Aq w g 118 cs)(h0:cs[0]? = some (.slice A n c))(h1:cs[1]? = some (.int .i64 (a:Int)))(dx:cs[34]? = some v34)(AB:cs[66]? = some v66)(lh:cs[33]? = some (.int .i64 k5))(qk:Aq w bx 116 #[.pointer (some ⟨g,0,none⟩)])(hl:Bj w A n c l)(hn:n≤200)(QT:a+k≤n):
 Calls prog 111 #[.pointer (some ⟨g,0,none⟩),.int .i64 (k:Int),.func (.func 114) #[] #[some bx]] w fun e w'=>(∃u,e=.returned u)∧Ui w g cs l (Rw l a k k5) w':=by
 have N1:=trivial;exact K23
end
