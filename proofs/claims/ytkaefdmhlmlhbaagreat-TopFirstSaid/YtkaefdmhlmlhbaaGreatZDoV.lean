/-
  Part ZDoV.
-/
import Derived.Test.YtkaefdmhlmlhbaaGreatZEdK
import Derived.Test.YtkaefdmhlmlhbaaGreatZDoM
import Derived.Test.YtkaefdmhlmlhbaaGreatZRepl
set_option maxRecDepth 100000
set_option maxHeartbeats 16000000
set_option linter.unusedVariables false
set_option linter.unusedSimpArgs false
namespace Go.Proofs.YtkaefdmhlmlhbaaGreat
open Go.RowKit
open _root_.Go.Proofs.Tryz
open AllReadyH renaming cons→Ai,nil→Am
open _root_.Nat renaming le_trans→Ar
section
variable {rl co r r':Nat→List Int}{l m m':List Int}{cs rs:Array Value}{A:Option Addr}{k1 k2 k3 k5 fk fa k4 at_ md vx EI v key cnt arg:Int}{v0 w:World}{g n c a f t f' t':Nat}{e e' ed:List Gp}{whole:Bool}
def Mo (k1:Int):Nat:=(max 1 k1).toNat
def Qg (n:Nat)(rl:Nat→List Int)(k1 k2:Int):Prop:=Nb rl k2=0∧Mo k1*(Rc rl k2).length+n≤200
def Kt (l:List Int)(n p:Nat)(rl:Nat→List Int)(k1 k2:Int)(m:List Int)(at_:Int)(e:List Gp):Prop:=
 Qg n rl k1 k2∧m=l.take p++J7 (Mo k1) (Rc rl k2)++l.drop p∧G9 l m e∧at_=(p:Int)+(Mo k1*(Rc rl k2).length:Nat)-1
def Ua (g:Nat)(l:List Int)(n p:Nat)(rl:Nat→List Int)(k1 k2 fk fa:Int)(w:World)(cs:Array Value):Prop:=
 ∃m at_ e,Ek w (g+1) cs m at_ 0 fk fa rl e∧Kt l n p rl k1 k2 m at_ e
theorem dH {k:Int}(h:Nb rl k=0):1≤(Rc rl k).length:=by
 unfold Nb at h;unfold Rc;split at h
 ·cases h
 ·split at h
  ·cases h
  ·try dsimp only
   omega
theorem cW {g n c p a:Nat}(h:Ft v0 w g cs A n c a rs rl k1 k2 k3 k4 k5 fk fa l)(hp:p≤n):
 Calls prog 110 #[.pointer (some ⟨g,0,none⟩),.int .i64 (p:Int)] w (Cv g w (Qg n rl k1 k2) (Ua g l n p rl k1 k2 fk fa)):=by
 obtain⟨h0,h1,fc,qg,mh,pv,df,lh⟩:=h.cells;have KZ:Hid (∀wx csx m at_ md rlx e T q d y,Ds w g cs wx csx m at_ md fk fa rlx e→Bj wx T q d y→(T=none→d=0)→q≤3000→Calls prog 116 #[.pointer (some ⟨g,0,none⟩),.int .i64 (p:Int),.int .i64 (p:Int),.slice T q d] wx fun en w'=>(∃u,en=.returned u)∧∃cs' e',Ds w g cs w' cs' (l.take p++y++l.drop p) at_ md fk fa rlx e'∧G9 l (l.take p++y++l.drop p) e'):=A6 (by
  intro wx csx m at_ md rlx e T q d y hm hy hT hq;exact kW hm h0 (h.line.ext (h.ext.turned hm.grown h.base)) hy hT (Nat.le_refl _) hp h.len hq)
 have HG:=A6 (fun wx (he:An w wx)=>jD (k:=k2) (h.regs.ext (h.ext.trans he)))
 have HM:=A6 h.mid;have HB:=A6 h.blk;have TZ:=A6 h.regs.1;have UA:Hid (∀j v,rs[j]? = some v→cs[2+j]? = some v):=A6 (fun j v hj=>by
  have ae:=(Array.getElem?_eq_some_iff.1 hj).1;rw[h.regs.1]at ae;rw[fc j ae];exact hj)
 have HC:Hid (cs[0]? = some (.slice A n c)∧cs[29]? = some (.int .i64 k1)):=A6 ⟨h0,qg⟩;have kw:=h.len;have hk:=h.cnt.1;have FJ:=h.cnt.2;have x30:w.cell? ⟨g,30,none⟩=some (.int .i64 k2):=(h.blk.cell 30).trans mh;obtain⟨er,ey⟩:∃er,Nb rl k2=er:=⟨_,rfl⟩;obtain⟨x,hx⟩:∃x,Rc rl k2=x:=⟨_,rfl⟩;have LC:=J0h rl k2;have ab:=dH (rl:=rl) (k:=k2);rw[ey]at HG LC ab;rw[hx]at HG ab;have HE:=A6 ey;have HX:=A6 hx;have UH:=A6 ab;clear h h0 h1 fc qg mh pv df lh ey hx ab;go_enter func110,ntmps110
 go_upto_region 1 with fail
 refine wp_region_held_drew (S:=fun w'=>w'.cell? ⟨g,30,none⟩=some (.int .i64 k2)∧Aq w' g 118 cs) (by kernel_rfl) ⟨x30,HB.out⟩ (fun aa=>?_)
 refine Bv (i:=0) (v:=some g) rfl aa ?_
 refine Bv (i:=1) (v:=some g) rfl aa ?_
 refine Bv (i:=2) (v:=(.pointer (some ⟨g,2,none⟩))) rfl aa ?_
 refine Ga (i:=3) (v:=(.agg rs)) rfl (fun w ag=>by obtain⟨s0,s1⟩:=ag;exact Ji rfl 38 (.tmp 11) rfl g 2 rfl 118 cs rs (0,0) _ s1 UA.out underlying38 rfl (De TZ.out)) aa ?_
 refine Bv (i:=4) (v:=some g) rfl aa ?_
 refine Bv (i:=5) (v:=some g) rfl aa ?_
 refine Bv (i:=6) (v:=(.pointer (some ⟨g,29,none⟩))) rfl aa ?_
 refine Bv (i:=7) (v:=(.pointer (some ⟨g,30,none⟩))) rfl aa ?_
 refine Bv (i:=8) (v:=k2) rfl aa ?_
 refine wpAnyH_ready (rs:=[9]) (by kernel_rfl) (by simp) ?_
 refine Ai rfl (fun K hK=>?_) Am
 refine C8 rfl 147 #[.agg rs,.int .i64 k2] rfl (by kernel_rfl) (fun v w'=>∃B q d,v=.tuple #[.slice B q d,.int .i64 er]∧Bj w' B q d x∧(B=none→d=0)∧An w.drew w') ((HG.out _ (An.drew w)).mono fun e w' ⟨B,q,d,h1,h2,h3,h4⟩=>⟨_,h1,B,q,d,rfl,h2.ints,h3,h4⟩) ?_
 rintro v w3 ⟨B,q,d,rfl,JC,ir,bg⟩;refine hK.out _ _ ⟨bg.cell x30,HB.out.ext ((An.drew w).trans bg)⟩ (fun af=>?_)
 clear hK K aa
 try simp only[List.getElem_toArray,List.getElem_cons_zero,List.getElem_cons_succ,Act.put,List.setIfInBounds_toArray,List.set_cons_zero,List.set_cons_succ]
 refine Bv (i:=10) (v:=(.tuple #[.slice B q d,.int .i64 er])) rfl af ?_
 refine Bv (i:=11) (v:=(.slice B q d)) rfl af ?_
 refine Bv (i:=12) (v:=er) rfl af ?_
 refine Bv (i:=13) (v:=(.slice B q d)) rfl af ?_
 refine Bv (i:=14) (v:=er) rfl af ?_
 refine wpAnyH_done (by kernel_rfl) ?_ _
 have gu:=A6 ((An.drew w).trans bg);have FG:=A6 JC;have pp:=A6 ir;have dr:Hid (x.length=q):=A6 JC.len;clear bg JC ir x30 HG;rcases LC with rfl|rfl|rfl
 case inr.inl=>
  exact I86
 case inr.inr=>
  exact I86
 have bu:1≤q:=by rw[←dr.out];exact UH.out rfl
 have y0:w3.cell? ⟨g,0,none⟩=some (.slice A n c):=(HM.out.ext gu.out).cell (by omega) HC.out.1
 have y29:w3.cell? ⟨g,29,none⟩=some (.int .i64 k1):=(HM.out.ext gu.out).cell (by omega) HC.out.2
 obtain⟨N,hN⟩:∃N:Nat,Mo k1=N:=⟨_,rfl⟩;have sd:max 1 k1=(N:Int):=by unfold Mo at hN;omega
 have TT:1≤N:=by unfold Mo at hN;omega
 have mS:N≤999:=by unfold Mo at hN;omega
 have HN:=A6 hN;obtain⟨D,hD⟩:∃D:Nat,(200-n)/q=D:=⟨_,rfl⟩;have hdv:((200:Int)-(n:Int))/(q:Int)=(D:Int):=by rw[←hD,Int.natCast_ediv];congr 1;omega
 have HD:Hid (N≤D↔N*q≤200-n):=A6 (by rw[←hD];exact Nat.le_div_iff_mul_le bu)
 have hDb:D≤200:=by rw[←hD];exact Ar (Nat.div_le_self _ _) (by omega)
 have Wc:q≤9223372036854775807:=by have:=Ar FG.out.ncap FG.out.nmax;unfold maxLen at this;omega
 clear hN hD;by_cases qj:N≤D
 case neg=>
  have ae:D<N:=by omega
  have ns:Hid (¬Qg n rl k1 k2):=A6 (fun h=>by
   have h2:=h.2;rw[HN.out,HX.out,dr.out]at h2;exact qj (HD.out.2 (by omega)))
  clear qj;go_wp2_with fail
  go_ret
  exact(HM.out.ext gu.out).fail (by decide) ns.out
 obtain⟨M,hM⟩:∃M:Nat,N*q=M:=⟨_,rfl⟩;have UI:M≤200-n:=by rw[←hM];exact HD.out.1 qj
 have hMi:(N:Int)*(q:Int)=(M:Int):=by rw[←hM];exact(Int.natCast_mul N q).symm
 have Ww:=A6 hM;have Xb:=A6 (yT (n:=N) (N:=M) FG.out bu TT (by rw[Nat.mul_comm];exact hM) (by omega))
 clear hM;go_wp2_with fail
 refine Xb.out.mono ?_
 rintro en w4 ⟨⟨gg,rfl,fd⟩,li⟩;have Yx:=A6 (KZ.out _ _ _ _ _ _ _ _ _ _ _ ((HM.out.ext gu.out).ext li) fd.ints (fun h=>by cases h) (by omega))
 clear fd li Xb y0 y29;go_wp2_with fail
 refine Yx.out.mono ?_
 rintro en w5 ⟨⟨u,rfl⟩,cs5,e5,vj,LD⟩;have u35:=vj.oat;have v35:=vj.blk.frozen 35;have xd:=vj.setAt ((p:Int)+(M:Int)-1);have lj:=A6 xd;have vh:=A6 LD;clear vj xd LD Yx;go_wp2_with fail
 go_ret
 refine lj.out.done ⟨_,_,_,lj.out.out,⟨HE.out,?_⟩,?_,vh.out,?_⟩
 ·rw[HN.out,HX.out,dr.out,Ww.out];omega
 ·rw[HN.out,HX.out]
 ·rw[HN.out,HX.out,dr.out,Ww.out]
def F3 (n a:Nat)(rl:Nat→List Int)(k1 k2 v:Int):Prop:=
 (v=112∨v=80→Qg n rl k1 k2)∧(v=126→n≠0)∧(v=114→Mo k1+a≤n)∧(v=112∨v=80∨v=126∨v=114∨v=105∨v=73∨v=97∨v=65∨v=82)
def Hy (l:List Int)(n a:Nat)(rl:Nat→List Int)(k1 k2 v k5:Int)(m:List Int)(at_ md:Int)(e:List Gp):Prop:=
 (v=112∧Kt l n (min (a+1) n) rl k1 k2 m at_ e∧md=0)∨(v=80∧Kt l n a rl k1 k2 m at_ e∧md=0)∨
 (v=126∧n≠0∧m=Ry l a (min (Mo k1) (n-a))∧G9 l m e∧at_=max 0 (min ((a:Int)+(min (Mo k1) (n-a):Nat)) ((n:Int)-1))∧md=0)∨
 (v=114∧Mo k1+a≤n∧m=Rw l a (Mo k1) k5∧G9 l m e∧at_=(a:Int)+(Mo k1:Nat)-1∧md=0)∨
 (m=l∧e=[]∧((v=105∧at_=a∧md=1)∨(v=73∧at_=(Gi l:Nat)∧md=1)∨(v=97∧at_=(min (a+1) n:Nat)∧md=1)∨(v=65∧at_=(n:Nat)∧md=1)∨(v=82∧at_=a∧md=2)))
def Eg (g:Nat)(l:List Int)(n a:Nat)(rl:Nat→List Int)(k1 k2 v k5 fk fa:Int)(w:World)(cs:Array Value):Prop:=
 ∃m at_ md e,Ek w (g+1) cs m at_ md fk fa rl e∧Hy l n a rl k1 k2 v k5 m at_ md e
theorem nW (h:Ft v0 w g cs A n c a rs rl k1 k2 k3 112 k5 fk fa l):
 Calls prog 73 #[.pointer (some ⟨g,0,none⟩)] w (Cv g w (F3 n a rl k1 k2 112) (Eg g l n a rl k1 k2 112 k5 fk fa)):=by
 have N0:=trivial;exact xQ
theorem tZ (h:Ft v0 w g cs A n c a rs rl k1 k2 k3 80 k5 fk fa l):
 Calls prog 73 #[.pointer (some ⟨g,0,none⟩)] w (Cv g w (F3 n a rl k1 k2 80) (Eg g l n a rl k1 k2 80 k5 fk fa)):=by
 have N1:=trivial;exact xQ
theorem nU (h:Ft v0 w g cs A n c a rs rl k1 k2 k3 126 k5 fk fa l):
 Calls prog 73 #[.pointer (some ⟨g,0,none⟩)] w (Cv g w (F3 n a rl k1 k2 126) (Eg g l n a rl k1 k2 126 k5 fk fa)):=by
 have N2:=trivial;exact xQ
theorem nV (h:Ft v0 w g cs A n c a rs rl k1 k2 k3 114 k5 fk fa l):
 Calls prog 73 #[.pointer (some ⟨g,0,none⟩)] w (Cv g w (F3 n a rl k1 k2 114) (Eg g l n a rl k1 k2 114 k5 fk fa)):=by
 have N3:=trivial;exact xQ
theorem vW {n c a:Nat}(hl:Bj w A n c l)(wl:∀x∈l,(Lit.int .i64 x).wf=true)(hn:n≤200)(ha:a≤n-1):
 Calls prog 108 #[.slice A n c,.int .i64 (a:Int),.agg #[(94:Int),(0:Int),(0:Int)],.bool false] w fun e w'=>e=.returned (.tuple #[.int .i64 (Gi l:Nat),false,(0:Int)])∧An w w':=by
 refine(aW (k:=(a:Int)) (key:=94) (cnt:=0) (arg:=0) (op:=false) hl wl).mono ?_
 rintro e w' ⟨h|⟨h,_⟩,hx⟩
 ·obtain⟨_,o,ho,rfl⟩:=h
  refine⟨?_,hx⟩
  have h1:Kg 94=false:=by decide
  unfold Yl at ho;rw[h1]at ho;unfold Ch F1 at ho;simp at ho;rw[ho]
  rfl
 ·exact absurd ⟨by omega,by omega,by omega,by omega,by omega,by decide⟩ h
theorem nX (h:Ft v0 w g cs A n c a rs rl k1 k2 k3 105 k5 fk fa l):
 Calls prog 73 #[.pointer (some ⟨g,0,none⟩)] w (Cv g w (F3 n a rl k1 k2 105) (Eg g l n a rl k1 k2 105 k5 fk fa)):=by
 have N4:=trivial;exact xQ
theorem tY (h:Ft v0 w g cs A n c a rs rl k1 k2 k3 82 k5 fk fa l):
 Calls prog 73 #[.pointer (some ⟨g,0,none⟩)] w (Cv g w (F3 n a rl k1 k2 82) (Eg g l n a rl k1 k2 82 k5 fk fa)):=by
 have N5:=trivial;exact xQ
theorem uB (h:Ft v0 w g cs A n c a rs rl k1 k2 k3 65 k5 fk fa l):
 Calls prog 73 #[.pointer (some ⟨g,0,none⟩)] w (Cv g w (F3 n a rl k1 k2 65) (Eg g l n a rl k1 k2 65 k5 fk fa)):=by
 have N6:=trivial;exact xQ
theorem tX (h:Ft v0 w g cs A n c a rs rl k1 k2 k3 97 k5 fk fa l):
 Calls prog 73 #[.pointer (some ⟨g,0,none⟩)] w (Cv g w (F3 n a rl k1 k2 97) (Eg g l n a rl k1 k2 97 k5 fk fa)):=by
 have N7:=trivial;exact xQ
theorem uA (h:Ft v0 w g cs A n c a rs rl k1 k2 k3 73 k5 fk fa l):
 Calls prog 73 #[.pointer (some ⟨g,0,none⟩)] w (Cv g w (F3 n a rl k1 k2 73) (Eg g l n a rl k1 k2 73 k5 fk fa)):=by
 have N8:=trivial;exact xQ
theorem tW (h:Ft v0 w g cs A n c a rs rl k1 k2 k3 k4 k5 fk fa l)(du:¬(k4=112∨k4=80∨k4=126∨k4=114∨k4=105∨k4=73∨k4=97∨k4=65∨k4=82)):
 Calls prog 73 #[.pointer (some ⟨g,0,none⟩)] w (Cv g w (F3 n a rl k1 k2 k4) (Eg g l n a rl k1 k2 k4 k5 fk fa)):=by
 have N9:=trivial;exact xQ
theorem nS (h:Ft v0 w g cs A n c a rs rl k1 k2 k3 k4 k5 fk fa l):
 Calls prog 73 #[.pointer (some ⟨g,0,none⟩)] w (Cv g w (F3 n a rl k1 k2 k4) (Eg g l n a rl k1 k2 k4 k5 fk fa)):=by
 by_cases du:k4=112∨k4=80∨k4=126∨k4=114∨k4=105∨k4=73∨k4=97∨k4=65∨k4=82
 ·rcases du with rfl|rfl|rfl|rfl|rfl|rfl|rfl|rfl|rfl
  ·exact nW h
  ·exact tZ h
  ·exact nU h
  ·exact nV h
  ·exact nX h
  ·exact uA h
  ·exact tX h
  ·exact uB h
  ·exact tY h
 ·exact tW h du
def Kz (l:List Int)(n a:Nat)(rl:Nat→List Int)(k1 k2 o v k5 fk fa:Int)(m:List Int)(at_ md zk za:Int)(co:Nat→List Int)(ed:List Gp):Prop:=
 (Ph v=true∧∃mk ma,J3 fk fa v k5=some (mk,ma,zk,za)∧((o=0∧mC l n a mk k1 ma at_∧m=l∧md=0∧co=rl∧ed=[])∨(o≠0∧∃f t,Ko l n a mk k1 ma f t∧Lu l a rl k2 o f t false m at_ md co ed)))∨
 (Ph v=false∧o=0∧zk=fk∧za=fa∧co=rl∧Hy l n a rl k1 k2 v k5 m at_ md ed)∨
 (Ph v=false∧o≠0∧zk=fk∧za=fa∧∃f t whole,f≤t∧t≤n∧Tn l n a o v k5 f t whole∧Lu l a rl k2 o f t whole m at_ md co ed)
theorem H8.rel {g n a:Nat}{k1 k2 o v v' k5 fk fa:Int}{cs:Array Value}(h:H8 g l n a rl k1 k2 o v k5 fk fa (Eg g l n a rl k1 k2 v' k5 fk fa) w cs)(hv:o=0→v'=v):
 ∃m at_ md zk za co e,Ek w (g+1) cs m at_ md zk za co e∧Kz l n a rl k1 k2 o v k5 fk fa m at_ md zk za co e:=by
 rcases h with⟨hm,mk,ma,zk,za,hf,⟨ho,x,h1,h2⟩|⟨ho,f,t,m,at_,md,co,e,hr,h1,h2⟩⟩|⟨hm,ho,m,at_,md,e,h1,h2⟩|⟨hm,ho,f,t,whole,m,at_,md,co,e,h1,h2,h3,h4,h5⟩
 ·exact⟨_,_,_,_,_,_,_,h2,.inl ⟨hm,mk,ma,hf,.inl ⟨ho,h1,rfl,rfl,rfl,rfl⟩⟩⟩
 ·exact⟨_,_,_,_,_,_,_,h1,.inl ⟨hm,mk,ma,hf,.inr ⟨ho,f,t,hr,h2⟩⟩⟩
 ·rw[hv ho]at h2
  exact⟨_,_,_,_,_,_,_,h1,.inr (.inl ⟨hm,ho,rfl,rfl,rfl,h2⟩)⟩
 ·exact⟨_,_,_,_,_,_,_,h4,.inr (.inr ⟨hm,ho,rfl,rfl,f,t,whole,h1,h2,h3,h5⟩)⟩
theorem Zt {o v:Int}(h:(Gg o v).1=0):(Gg o v).2=v∧o=0:=by
 unfold Gg at h ⊢;split
 ·rename_i ho
  rw[if_pos ho]at h;split
  ·rename_i p hp
   rw[hp]at h;have:=Tv hp;have h:p.1=0:=h;omega
  ·exact⟨rfl,ho⟩
 ·rename_i ho
  rw[if_neg ho]at h;exact absurd h ho
def J1w (b:Nat)(l:List Int)(n a:Nat)(rl:Nat→List Int)(k1 k2 o v k5 fk fa:Int)(w:World)(cs:Array Value):Prop:=
 ∃g m at_ md zk za co e,b≤g∧Ek w (g+1) cs m at_ md zk za co e∧Kz l n a rl k1 k2 o v k5 fk fa m at_ md zk za co e
theorem J1a {n c:Nat}{a fk fa k1 k2 k3 k4 k5:Int}{rs:Array Value}(hl:Bj w A n c l)(wl:∀x∈l,(Lit.int .i64 x).wf=true)(hA:A=none→c=0)(hr:Lp w rs rl):
 Calls prog 28 #[.agg #[.slice A n c,a],.agg rs,.agg #[fk,fa],.agg #[k1,k2,k3,k4,k5]] w fun e w'=>An w w'∧
  (
   (¬(Rg n a k1 fk k3∧P8 l n a.toNat rl k1 k2 (Gg k3 k4).1 (Gg k3 k4).2 k5 fk fa (F3 n a.toNat rl k1 k2 k4))∧∃er,er≠0∧e=.returned (.tuple #[.agg Gq,.int .i64 er]))∨
   ∃vs m at_ md zk za co ed,e=.returned (.tuple #[.agg vs,(0:Int)])∧Rg n a k1 fk k3∧Lt w' (w.heap.size+5) vs m at_ md zk za co ed∧Kz l n a.toNat rl k1 k2 (Gg k3 k4).1 (Gg k3 k4).2 k5 fk fa m at_ md zk za co ed):=by
 refine(J4y (Ok:=P8 l n a.toNat rl k1 k2 (Gg k3 k4).1 (Gg k3 k4).2 k5 fk fa (F3 n a.toNat rl k1 k2 k4)) (Post:=fun w' cs=>Rg n a k1 fk k3∧J1w (w.heap.size+5) l n a.toNat rl k1 k2 (Gg k3 k4).1 (Gg k3 k4).2 k5 fk fa w' cs) hl wl hA hr ?_ ?_).mono ?_
 ·rintro w1 w2 cs ⟨hv,g,m,at_,md,zk,za,co,e,h1,h2,h3⟩ hg
  exact⟨hv,g,m,at_,md,zk,za,co,e,h1,h2.grown hg (by omega),h3⟩
 ·intro hv wz g cs hg hC
  have h:=uH (POk:=F3 n a.toNat rl k1 k2 k4) (PPost:=Eg g l n a.toNat rl k1 k2 k4 k5 fk fa) hC hv.2.2.2 (fun _ _ wx he=>nS (hC.wext he))
  exact h.mono fun e w' h=>h.from ⟨rfl,rfl,rfl,Nat.le_refl _,fun _ _ _=>rfl⟩ id (fun cs h=>
   let ⟨m,at_,md,zk,za,co,e,h1,h2⟩:=h.rel (fun h0=>(Zt h0).1.symm)
   ⟨hv,g,m,at_,md,zk,za,co,e,hg,h1,h2⟩)
 ·rintro e w' ⟨hx,h⟩
  refine⟨hx,h.imp id ?_⟩
  rintro⟨cs,hz,h1,h2,hv,g,m,at_,md,zk,za,co,e',h3,h4,h5⟩;exact⟨_,m,at_,md,zk,za,co,e',h2,hv,h4.res h1 (by omega),h5⟩
theorem Ko.one (h:Ko l n a key cnt arg f t)(h':Ko l n a key cnt arg f' t'):f=f'∧t=t':=by
 obtain⟨_,x,i,h1,_,_,rfl,rfl⟩:=h;obtain⟨_,x',i',uo,_,_,rfl,rfl⟩:=h';have:=Vg h1 uo;injection this with this;injection this with h2 h3;subst h2;subst h3;exact⟨rfl,rfl⟩
theorem mC.one {x x':Int}(h:mC l n a key cnt arg x)(h':mC l n a key cnt arg x'):x=x':=by
 obtain⟨_,y,i,h1,_,rfl⟩:=h;obtain⟨_,y',i',uo,_,rfl⟩:=h';have:=Vg h1 uo;injection this with this;injection this with h2 h3;subst h2
 rfl
theorem G9.one (h:G9 l m e)(h':G9 l m e'):e=e':=by
 obtain⟨k,j,h1,h2⟩:=h;obtain⟨k',j',uo,JU⟩:=h';obtain⟨rfl,rfl⟩:=wV h1 uo;rcases h2 with⟨a1,a2,rfl⟩|⟨a1,rfl⟩<;>rcases JU with⟨b1,b2,rfl⟩|⟨b1,rfl⟩
 ·rfl
 ·exact absurd ⟨a1,a2⟩ b1
 ·exact absurd ⟨b1,b2⟩ a1
 ·rfl
theorem Sj.one {k2:Int}{x:List Int}(gi:f≤t)(h:Sj rl k2 f t x r)(h':Sj rl k2 f t x r'):r=r':=by
 by_cases he:f=t
 ·rw[h.1 he,h'.1 he]
 ·obtain⟨i,m,h1,_,rfl⟩:=h.2 (by omega)
  obtain⟨i',m',uo,_,rfl⟩:=h'.2 (by omega)
  rw[h1]at uo;injection uo with uo;injection uo with e1 e2;subst e1;subst e2
  rfl
theorem Lu.one {a:Int}{k2 k3:Int}(gi:f≤t)(h:Lu l a rl k2 k3 f t whole m at_ md r e)(h':Lu l a rl k2 k3 f t whole m' vx EI r' e'):m=m'∧at_=vx∧md=EI∧r=r'∧e=e':=by
 obtain⟨_,hk,h⟩:=h;obtain⟨_,di,h'⟩:=h';have hr:=hk.one gi di;rcases h with⟨a1,rfl,rfl,rfl,rfl⟩|⟨a1,hm,he,ha⟩<;>rcases h' with⟨b1,rfl,rfl,rfl,rfl⟩|⟨b1,jf,fw,hb⟩
 ·exact⟨rfl,rfl,rfl,hr,rfl⟩
 ·exact absurd a1 b1
 ·exact absurd b1 a1
 ·have:m=m':=hm.trans jf.symm
  subst this;have hee:=he.one fw;rcases ha with⟨c1,c2,c3⟩|⟨c1,c2,c3⟩<;>rcases hb with⟨d1,d2,d3⟩|⟨d1,d2,d3⟩
  ·exact⟨rfl,c2.trans d2.symm,c3.trans d3.symm,hr,hee⟩
  ·exact absurd c1 d1
  ·exact absurd d1 c1
  ·exact⟨rfl,c3.trans d3.symm,c2.trans d2.symm,hr,hee⟩
theorem Lu.ok {a:Int}{k2 k3:Int}{r:Nat→List Int}(h:Lu l a rl k2 k3 f t whole m at_ md r e):Ye l rl k2 k3 f t:=
 ⟨h.1,fun ae=>let ⟨i,m',h1,h2,_⟩:=h.2.1.2 ae;⟨i,m',h1,h2⟩⟩
theorem Kt.one {n p:Nat}{k1 k2:Int}{at_ vx:Int}(h:Kt l n p rl k1 k2 m at_ e)(h':Kt l n p rl k1 k2 m' vx e'):m=m'∧at_=vx∧e=e':=by
 obtain⟨_,hm,he,ha⟩:=h;obtain⟨_,jf,fw,Ij⟩:=h';have:m=m':=hm.trans jf.symm;subst this;exact⟨rfl,ha.trans Ij.symm,he.one fw⟩
theorem Hy.one (h:Hy l n a rl k1 k2 v k5 m at_ md e)(h':Hy l n a rl k1 k2 v k5 m' vx EI e'):m=m'∧at_=vx∧md=EI∧e=e':=by
 rcases h with⟨hv,h,hd⟩|⟨hv,h,hd⟩|⟨hv,_,hm,he,ha,hd⟩|⟨hv,_,hm,he,ha,hd⟩|⟨rfl,rfl,h⟩<;>rcases h' with⟨gv,g,gd⟩|⟨gv,g,gd⟩|⟨gv,_,gm,ge,ga,gd⟩|⟨gv,_,gm,ge,ga,gd⟩|⟨rfl,rfl,g⟩
 case inl.inl=>obtain⟨h1,h2,h3⟩:=h.one g;exact⟨h1,h2,hd.trans gd.symm,h3⟩
 case inr.inl.inr.inl=>obtain⟨h1,h2,h3⟩:=h.one g;exact⟨h1,h2,hd.trans gd.symm,h3⟩
 case inr.inr.inl.inr.inr.inl=>
  exact I94
 case inr.inr.inr.inl.inr.inr.inr.inl=>
  exact I94
 case inr.inr.inr.inr.inr.inr.inr.inr=>
  refine⟨rfl,?_,?_,rfl⟩
  ·rcases h with⟨h1,h2,_⟩|⟨h1,h2,_⟩|⟨h1,h2,_⟩|⟨h1,h2,_⟩|⟨h1,h2,_⟩<;>rcases g with⟨g1,g2,_⟩|⟨g1,g2,_⟩|⟨g1,g2,_⟩|⟨g1,g2,_⟩|⟨g1,g2,_⟩<;>omega
  ·rcases h with⟨h1,_,h2⟩|⟨h1,_,h2⟩|⟨h1,_,h2⟩|⟨h1,_,h2⟩|⟨h1,_,h2⟩<;>rcases g with⟨g1,_,g2⟩|⟨g1,_,g2⟩|⟨g1,_,g2⟩|⟨g1,_,g2⟩|⟨g1,_,g2⟩<;>omega
 all_goals
  exfalso
  first
   |omega
   |(rcases h with⟨h1,_⟩|⟨h1,_⟩|⟨h1,_⟩|⟨h1,_⟩|⟨h1,_⟩<;>omega)
   |(rcases g with⟨h1,_⟩|⟨h1,_⟩|⟨h1,_⟩|⟨h1,_⟩|⟨h1,_⟩<;>omega)
theorem Hy.ok (h:Hy l n a rl k1 k2 v k5 m at_ md e):F3 n a rl k1 k2 v:=by
 rcases h with⟨rfl,h,hd⟩|⟨rfl,h,hd⟩|⟨rfl,h0,_⟩|⟨rfl,h0,_⟩|⟨_,_,h⟩
 ·exact I128
 ·exact I128
 ·exact⟨fun h=>(by omega),fun _=>h0,fun h=>(by omega),by omega⟩
 ·exact⟨fun h=>(by omega),fun h=>(by omega),fun _=>h0,by omega⟩
 ·have hv:v=105∨v=73∨v=97∨v=65∨v=82:=by
   rcases h with⟨h1,_⟩|⟨h1,_⟩|⟨h1,_⟩|⟨h1,_⟩|⟨h1,_⟩<;>omega
  exact⟨fun h=>(by omega),fun h=>(by omega),fun h=>(by omega),by omega⟩
theorem Tn.one {o v k5:Int}{w w':Bool}(h:Tn l n a o v k5 f t w)(h':Tn l n a o v k5 f' t' w'):f=f'∧t=t'∧w=w':=by
 rcases h with⟨h1,rfl,rfl,rfl⟩|⟨h1,_,rfl,h2⟩<;>rcases h' with⟨g1,rfl,rfl,rfl⟩|⟨g1,_,rfl,g2⟩
 ·exact⟨rfl,rfl,rfl⟩
 ·exact absurd h1 g1
 ·exact absurd g1 h1
 ·obtain⟨e1,e2,_⟩:=lB h2 g2
  exact⟨by omega,by omega,rfl⟩
theorem Kz.one {rl r r':Nat→List Int}{k1 k2 o v k5 fk fa zk za IW IX:Int}(h:Kz l n a rl k1 k2 o v k5 fk fa m at_ md zk za r e)(h':Kz l n a rl k1 k2 o v k5 fk fa m' vx EI IW IX r' e')(ha:a≤n-1):m=m'∧at_=vx∧md=EI∧zk=IW∧za=IX∧r=r'∧e=e':=by
 rcases h with⟨hm,mk,ma,hf,h⟩|⟨hm,ho,h1,h2,h3,h⟩|⟨hm,ho,h1,h2,f,t,wh,gi,_,hs,h⟩<;>rcases h' with⟨gm,QV,QW,gf,g⟩|⟨gm,go,g1,g2,g3,g⟩|⟨gm,go,g1,g2,f',t',wh',gft,_,gs,g⟩
 ·rw[hf]at gf
  injection gf with gf;simp only[Prod.mk.injEq]at gf;obtain⟨rfl,rfl,rfl,rfl⟩:=gf;rcases h with⟨ho,h1,rfl,rfl,rfl,rfl⟩|⟨ho,f,t,h1,h2⟩<;>rcases g with⟨go,g1,rfl,rfl,rfl,rfl⟩|⟨go,f',t',g1,g2⟩
  ·exact⟨rfl,h1.one g1,rfl,rfl,rfl,rfl,rfl⟩
  ·exact absurd ho go
  ·exact absurd go ho
  ·obtain⟨rfl,rfl⟩:=h1.one g1
   obtain⟨e1,e2,e3,e4,e5⟩:=h2.one (h1.bd ha).2.2.1 g2;exact⟨e1,e2,e3,rfl,rfl,e4,e5⟩
 ·rw[hm]at gm;cases gm
 ·rw[hm]at gm;cases gm
 ·rw[hm]at gm;cases gm
 ·obtain⟨e1,e2,e3,e4⟩:=h.one g
  exact⟨e1,e2,e3,h1.trans g1.symm,h2.trans g2.symm,h3.trans g3.symm,e4⟩
 ·exact absurd ho go
 ·rw[hm]at gm;cases gm
 ·exact absurd go ho
 ·obtain⟨rfl,rfl,rfl⟩:=hs.one gs
  obtain⟨e1,e2,e3,e4,e5⟩:=h.one gi g;exact⟨e1,e2,e3,h1.trans g1.symm,h2.trans g2.symm,e4,e5⟩
theorem Kz.ok {rl r:Nat→List Int}{k1 k2 o v k4 k5 fk fa zk za:Int}(h:Kz l n a rl k1 k2 o v k5 fk fa m at_ md zk za r e)(hv:o=0→v=k4):P8 l n a rl k1 k2 o v k5 fk fa (F3 n a rl k1 k2 k4):=by
 rcases h with⟨hm,mk,ma,hf,h⟩|⟨hm,ho,h1,h2,h3,h⟩|⟨hm,ho,h1,h2,f,t,wh,gi,_,hs,h⟩
 ·refine⟨fun _=>⟨mk,ma,zk,za,hf,?_⟩,fun h=>(by rw[hm]at h;cases h),fun h=>(by rw[hm]at h;cases h)⟩
  rcases h with⟨ho,h1,_⟩|⟨ho,f,t,h1,h2⟩
  ·obtain⟨cw,y,i,h3,_⟩:=h1
   refine⟨cw,fun hn=>?_,fun h=>absurd ho h⟩
   rw[show decide (o≠0)=false by simp[ho]]at hn
   have:=Vg hn h3;cases this
  ·have uo:=h1
   obtain⟨cw,y,i,h3,_⟩:=h1;refine⟨cw,fun hn=>?_,fun _ f' t' hr=>?_⟩
   ·rw[show decide (o≠0)=true by simp[ho]]at hn
    have:=Vg hn h3;cases this
   ·obtain⟨rfl,rfl⟩:=uo.one hr
    exact h2.ok
 ·refine⟨fun h=>(by rw[hm]at h;cases h),fun _ _=>?_,fun _ h=>absurd ho h⟩
  rw[←hv ho];exact h.ok
 ·refine⟨fun h=>(by rw[hm]at h;cases h),fun _ h=>absurd h ho,fun _ _=>?_⟩
  rcases hs with⟨s1,rfl,rfl,_⟩|⟨s1,s2,_,s3⟩
  ·exact .inl ⟨s1,h.ok⟩
  ·exact .inr ⟨s1,s2,f,t,s3,h.ok⟩
theorem Q7 {n:Nat}{a:Int}(h1:0≤a)(h2:a≤max 0 ((n:Int)-1)):a.toNat≤n-1:=by omega
theorem Lt.grown {w w':World}{b g:Nat}{vs:Array Value}{at_ md fk fa:Int}(h:Lt w b vs m at_ md fk fa rl e)(hg:w.grownBy w' (some g))(hb:g<b):Lt w' b vs m at_ md fk fa rl e:=
 {
  h with
  text:=let ⟨B,q,d,h1,h2⟩:=h.text;⟨B,q,d,h1,h2.grown hg hb⟩
  regs:=fun j hj=>let ⟨v,h1,h2⟩:=h.regs j hj;⟨v,h1,h2.grown hg hb⟩
  edit:=let ⟨v,h1,h2⟩:=h.edit;⟨v,h1,h2.grown hg hb⟩
  far:=fun B q d h0 g' cr=>by
   obtain⟨h1,v,h2,h3⟩:=h.far B q d h0 g' cr;obtain⟨B',q',d',h4,h5⟩:=h.text;rw[h0]at h4;injection h4 with h4;injection h4 with e1 e2 e3;subst e1;subst e2;subst e3;have:=(Bd.blk h5 g' cr).1;exact⟨h1,v,h2,h3.grown hg (by omega)⟩ }
theorem eQ {A B:Option Addr}{n c m d:Nat}{a:Int}(hl:Bj w A n c l)(eq:Bj w B m d l):
 Calls prog 19 #[.agg #[.slice A n c,a],.agg #[.slice B m d,a]] w fun e w'=>e=.returned (.bool true)∧An w w':=by
 have al:=(Aq.new w 32 #[.slice A n c,.int .i64 a]).ext (An.alloc _ (.cells #[.slice B m d,a] 32));have ak:Aq ((w.alloc (.cells #[.slice A n c,a] 32)).alloc (.cells #[.slice B m d,a] 32)) (w.heap.size+1) 32 #[.slice B m d,.int .i64 a]:=by
  have:=Aq.new (w.alloc (.cells #[.slice A n c,a] 32)) 32 #[.slice B m d,.int .i64 a]
  rwa[World.size_alloc]at this
 have hx:An w ((w.alloc (.cells #[.slice A n c,a] 32)).alloc (.cells #[.slice B m d,a] 32)):=(An.alloc _ _).to_alloc _;have HEq:=A6 (Lk (hl.ext hx) (eq.ext hx));rw[Q5.2 rfl]at HEq;have HX:=A6 hx;have B1:=A6 al;have B2:=A6 ak;clear hl eq hx al ak;go_enter func19,ntmps19
 go_upto_region 1 with fail
 generalize (w.alloc (.cells #[.slice A n c,a] 32)).alloc (.cells #[.slice B m d,a] 32)=W at*;obtain⟨c0,c1⟩:=Fh B1.out;obtain⟨d0,d1⟩:=Fh B2.out;have haa:(a==a)=true:=by simp
 go_wp2_with fail
 refine HEq.out.mono ?_
 rintro e w' ⟨rfl,he⟩;have im:=A6 (HX.out.trans he);clear he HEq;go_wp2_with fail
 go_ret
 exact⟨rfl,im.out⟩
theorem G9.good (h:G9 l m e)(hl:l.length≤4096)(hm:m.length≤4096):lZ l.length e=0∧bX l 0 e=m:=by
 obtain⟨k,j,hb,⟨h1,h2,rfl⟩|⟨h1,rfl⟩⟩:=h
 ·refine⟨U7.2 ⟨by omega,by omega,trivial,?_⟩,?_⟩
  ·simp only[bW];omega
  ·rw[pZ hb h1 h2];simp[bX]
 ·exact⟨J1m hb hl hm h1,lU hb⟩
theorem U2 (hl:l.length≤4096):lZ l.length []=0∧bX l 0 []=l:=
 ⟨U7.2 ⟨by omega,by omega,trivial,by simp only[bW];omega⟩,by simp[bX]⟩
def kH (l:List Int)(n:Nat)(m:List Int)(at_ md:Int)(ed:List Gp):Prop:=
 m.length≤200∧0≤at_∧(md=0→at_≤max 0 ((m.length:Int)-1))∧(md≠0→at_≤m.length)∧lZ n ed=0∧bX l 0 ed=m
theorem sE {n a f t:Nat}{k2 o:Int}(h:Lu l a rl k2 o f t whole m at_ md co ed)(hl:l.length=n)(hn:n≤200)(ha:a≤n-1)(gi:f≤t)(pj:t≤n):kH l n m at_ md ed:=by
 obtain⟨_,_,⟨_,rfl,rfl,rfl,gt⟩|⟨_,hm,he,hh⟩⟩:=h
 ·have hg:=U2 (l:=m) (by omega)
  rw[hl]at hg;refine⟨by omega,?_,fun _=>?_,fun h=>absurd rfl h,hg.1,hg.2⟩
  ·rw[gt];split<;>omega
  ·rw[gt];split<;>omega
 ·have IT:m.length=f+(n-t):=by rw[hm];simp;omega
  have hg:=he.good (by omega) (by omega)
  rw[hl]at hg;refine⟨by omega,?_,fun hd=>?_,fun hd=>?_,hg.1,hg.2⟩
  ·rcases hh with⟨_,h1,_⟩|⟨_,_,h1⟩<;>omega
  ·rcases hh with⟨_,h1,h2⟩|⟨_,_,h1⟩<;>omega
  ·rcases hh with⟨_,h1,h2⟩|⟨_,h2,h1⟩<;>omega
theorem pD (l:List Int):Gi l≤l.length-1:=by
 unfold Gi;split<;>omega
theorem pF {a k:Nat}{x:Int}(h:a+k≤l.length):(Rw l a k x).length=l.length:=by
 unfold Rw;simp;omega
theorem qD (h:Hy l n a rl k1 k2 v k5 m at_ md ed)(hl:l.length=n)(hn:n≤200)(ha:a≤n-1):kH l n m at_ md ed:=by
 have hN:1≤Mo k1:=by unfold Mo;omega
 have paste:∀p,p≤n→Kt l n p rl k1 k2 m at_ ed→md=0→kH l n m at_ md ed:=by
  rintro p hp ⟨⟨h1,h2⟩,h3,h4,h5⟩ rfl;have hx:=dH h1;have TT:1≤Mo k1*(Rc rl k2).length:=Nat.mul_pos hN hx;have IT:m.length=n+Mo k1*(Rc rl k2).length:=by rw[h3];simp[Lx];omega
  have hg:=h4.good (by omega) (by omega)
  exact I107
 rcases h with⟨_,h,h2⟩|⟨_,h,h2⟩|⟨_,h0,hm,he,gt,hd⟩|⟨_,h0,hm,he,gt,hd⟩|⟨rfl,rfl,h⟩
 ·exact paste _ (by omega) h h2
 ·exact paste _ (by omega) h h2
 ·have IT:m.length=n:=by rw[hm,pW (by omega)];exact hl
  exact I73
 ·have IT:m.length=n:=by rw[hm,pF (by omega)];exact hl
  exact I73
 ·have hg:=U2 (l:=m) (by omega)
  rw[hl]at hg;have hf:=pD m;refine⟨by omega,?_,fun hd=>?_,fun hd=>?_,hg.1,hg.2⟩
  ·exact I50
  ·exact I50
  ·exact I50
theorem sF {k1 k2 o v k5 fk fa zk za:Int}(h:Kz l n a rl k1 k2 o v k5 fk fa m at_ md zk za co ed)(hl:l.length=n)(hn:n≤200)(ha:a≤n-1):kH l n m at_ md ed:=by
 rcases h with⟨_,mk,ma,_,⟨_,h1,rfl,rfl,_,rfl⟩|⟨_,f,t,h1,h2⟩⟩|⟨_,_,_,_,_,h⟩|⟨_,_,_,_,f,t,whole,h1,h2,_,h3⟩
 ·obtain⟨_,y,i,_,h3,h4⟩:=h1
  have hg:=U2 (l:=m) (by omega)
  exact I107
 ·have l9:=h1.bd ha
  exact sE h2 hl hn ha l9.2.2.1 l9.2.2.2
 ·exact qD h hl hn ha
 ·exact sE h3 hl hn ha h1 h2
end
