/-
  Part ZDoV.
-/
import Derived.Test.YtiahhfglhlgfiaaGreatZRepl
import Derived.Test.YtiahhfglhlgfiaaGreatZEdK
import Derived.Test.YtiahhfglhlgfiaaGreatZDoM
set_option maxRecDepth 100000
set_option maxHeartbeats 16000000
set_option linter.unusedVariables false
set_option linter.unusedSimpArgs false
namespace Go.Proofs.YtiahhfglhlgfiaaGreat
open Go.RowKit
open AllReadyH renaming cons→Ah,nil→Ak
open _root_.Nat renaming le_trans→Ap,zero_le→Aw
open Value renaming slice→Aj
section
variable {rl rl' r r':Nat→List Int}{l m m':List Int}{cs rs vs:Array Value}{A:Option Addr}{k1 k2 k3 k5 fk fa k4 at_ md at' md' v key cnt arg:Int}{v0 w:World}{g n c a f t f' t':Nat}{e e' ed:List Fh}{whole:Bool}
def Kz (k1:Int):Nat:=(max 1 k1).toNat
def Nb (n:Nat)(rl:Nat→List Int)(k1 k2:Int):Prop:=La rl k2=0∧Kz k1*(Ny rl k2).length+n≤200
def Jf (l:List Int)(n p:Nat)(rl:Nat→List Int)(k1 k2:Int)(m:List Int)(at_:Int)(e:List Fh):Prop:=
 Nb n rl k1 k2∧m=l.take p++Gn (Kz k1) (Ny rl k2)++l.drop p∧F3 l m e∧at_=(p:Int)+(Kz k1*(Ny rl k2).length:Nat)-1
def Ro (g:Nat)(l:List Int)(n p:Nat)(rl:Nat→List Int)(k1 k2 fk fa:Int)(w:World)(cs:Array Value):Prop:=
 ∃m at_ e,Do w (g+1) cs m at_ 0 fk fa rl e∧Jf l n p rl k1 k2 m at_ e
theorem Zb {k:Int}(h:La rl k=0):1≤(Ny rl k).length:=by
 unfold La at h;unfold Ny;split at h
 ·cases h
 ·split at h
  ·cases h
  ·try dsimp only
   omega
theorem Z2 {g n c p a:Nat}(h:Ep v0 w g cs A n c a rs rl k1 k2 k3 k4 k5 fk fa l)(hp:p≤n):
 Calls Tryz.prog 130 #[.pointer (some ⟨g,0,none⟩),.int .i64 (p:Int)] w (Ch g w (Nb n rl k1 k2) (Ro g l n p rl k1 k2 fk fa)):=by
 obtain⟨h0,h1,hrs,h29,h30,h31,h32,h33⟩:=h.cells;have HPt:Hid (∀wx csx m at_ md rlx e T q d y,Da w g cs wx csx m at_ md fk fa rlx e→Bi wx T q d y→(T=none→d=0)→q≤3000→Calls Tryz.prog 136 #[.pointer (some ⟨g,0,none⟩),.int .i64 (p:Int),.int .i64 (p:Int),.slice T q d] wx fun en w'=>(∃u,en=.returned u)∧∃cs' e',Da w g cs w' cs' (l.take p++y++l.drop p) at_ md fk fa rlx e'∧F3 l (l.take p++y++l.drop p) e'):=A4 (by
  intro wx csx m at_ md rlx e T q d y hm hy hT hq;exact eN hm h0 (h.line.ext (h.ext.turned hm.grown h.base)) hy hT (Nat.le_refl _) hp h.len hq)
 have HG:=A4 (fun wx (he:Al w wx)=>dB (k:=k2) (h.regs.ext (h.ext.trans he)))
 have HM:=A4 h.mid;have HB:=A4 h.blk;have HRs:=A4 h.regs.1;have HRv:Hid (∀j v,rs[j]? = some v→cs[2+j]? = some v):=A4 (fun j v hj=>by
  have hlt:=(Array.getElem?_eq_some_iff.1 hj).1;rw[h.regs.1]at hlt;rw[hrs j hlt];exact hj)
 have HC:Hid (cs[0]? = some (.slice A n c)∧cs[29]? = some (.int .i64 k1)):=A4 ⟨h0,h29⟩;have hn2:=h.len;have hk:=h.cnt.1;have hk9:=h.cnt.2;have x30:w.cell? ⟨g,30,none⟩=some (.int .i64 k2):=(h.blk.cell 30).trans h30;obtain⟨er,her⟩:∃er,La rl k2=er:=⟨_,rfl⟩;obtain⟨x,hx⟩:∃x,Ny rl k2=x:=⟨_,rfl⟩;have herd:=rX rl k2;have hlen:=Zb (rl:=rl) (k:=k2);rw[her]at HG herd hlen;rw[hx]at HG hlen;have HE:=A4 her;have HX:=A4 hx;have HLe:=A4 hlen;clear h h0 h1 hrs h29 h30 h31 h32 h33 her hx hlen;go_enter Tryz.func130,Tryz.ntmps130
 go_upto_region 1 with fail
 refine wp_region_held_drew (S:=fun w'=>w'.cell? ⟨g,30,none⟩=some (.int .i64 k2)∧An w' g 185 cs) (by kernel_rfl) ⟨x30,HB.out⟩ (fun hHeld=>?_)
 refine Bo (i:=0) (v:=(.pointer (some ⟨g,0,none⟩))) rfl hHeld ?_
 refine Bo (i:=1) (v:=(.pointer (some ⟨g,0,none⟩))) rfl hHeld ?_
 refine Bo (i:=2) (v:=(.pointer (some ⟨g,2,none⟩))) rfl hHeld ?_
 refine F4 (i:=3) (v:=(.agg rs)) rfl (fun w hSw=>by obtain⟨s0,s1⟩:=hSw;exact Gy rfl 40 (.tmp 11) rfl g 2 rfl 185 cs rs (0,0) _ s1 HRv.out Tryz.underlying40 rfl (Cu HRs.out)) hHeld ?_
 refine Bo (i:=4) (v:=(.pointer (some ⟨g,0,none⟩))) rfl hHeld ?_
 refine Bo (i:=5) (v:=(.pointer (some ⟨g,0,none⟩))) rfl hHeld ?_
 refine Bo (i:=6) (v:=(.pointer (some ⟨g,29,none⟩))) rfl hHeld ?_
 refine Bo (i:=7) (v:=(.pointer (some ⟨g,30,none⟩))) rfl hHeld ?_
 refine Bo (i:=8) (v:=(.int .i64 k2)) rfl hHeld ?_
 refine wpAnyH_ready (rs:=[9]) (by kernel_rfl) (by simp) ?_
 refine Ah rfl (fun K hK=>?_) Ak
 refine Bs rfl 144 #[.agg rs,.int .i64 k2] rfl (by kernel_rfl) (fun v w'=>∃B q d,v=.tuple #[.slice B q d,.int .i64 er]∧Bi w' B q d x∧(B=none→d=0)∧Al w.drew w') ((HG.out _ (Al.drew w)).mono fun e w' ⟨B,q,d,h1,h2,h3,h4⟩=>⟨_,h1,B,q,d,rfl,h2.ints,h3,h4⟩) ?_
 rintro v w3 ⟨B,q,d,rfl,hI3,hB3,hx3⟩;refine hK.out _ _ ⟨hx3.cell x30,HB.out.ext ((Al.drew w).trans hx3)⟩ (fun hHeld2=>?_)
 clear hK K hHeld
 try simp only[List.getElem_toArray,List.getElem_cons_zero,List.getElem_cons_succ,Act.put,List.setIfInBounds_toArray,List.set_cons_zero,List.set_cons_succ]
 refine Bo (i:=10) (v:=(.tuple #[.slice B q d,.int .i64 er])) rfl hHeld2 ?_
 refine Bo (i:=11) (v:=(.slice B q d)) rfl hHeld2 ?_
 refine Bo (i:=12) (v:=(.int .i64 er)) rfl hHeld2 ?_
 refine Bo (i:=13) (v:=(.slice B q d)) rfl hHeld2 ?_
 refine Bo (i:=14) (v:=(.int .i64 er)) rfl hHeld2 ?_
 refine wpAnyH_done (by kernel_rfl) ?_ _
 have HX3:=A4 ((Al.drew w).trans hx3);have HI3:=A4 hI3;have HB3:=A4 hB3;have hql:Hid (x.length=q):=A4 hI3.len;clear hx3 hI3 hB3 x30 HG;rcases herd with rfl|rfl|rfl
 case inr.inl=>
  exact I79
 case inr.inr=>
  exact I79
 have hq1:1≤q:=by rw[←hql.out];exact HLe.out rfl
 have y0:w3.cell? ⟨g,0,none⟩=some (.slice A n c):=(HM.out.ext HX3.out).cell (by omega) HC.out.1
 have y29:w3.cell? ⟨g,29,none⟩=some (.int .i64 k1):=(HM.out.ext HX3.out).cell (by omega) HC.out.2
 obtain⟨N,hN⟩:∃N:Nat,Kz k1=N:=⟨_,rfl⟩;have hmx:max 1 k1=(N:Int):=by unfold Kz at hN;omega
 have hN1:1≤N:=by unfold Kz at hN;omega
 have hN9:N≤999:=by unfold Kz at hN;omega
 have HN:=A4 hN;obtain⟨D,hD⟩:∃D:Nat,(200-n)/q=D:=⟨_,rfl⟩;have hdv:((200:Int)-(n:Int))/(q:Int)=(D:Int):=by rw[←hD,Int.natCast_ediv];congr 1;omega
 have HD:Hid (N≤D↔N*q≤200-n):=A4 (by rw[←hD];exact Nat.le_div_iff_mul_le hq1)
 have hDb:D≤200:=by rw[←hD];exact Ap (Nat.div_le_self _ _) (by omega)
 have hq200:q≤9223372036854775807:=by have:=Ap HI3.out.ncap HI3.out.nmax;unfold maxLen at this;omega
 clear hN hD;by_cases hbig:N≤D
 case neg=>
  have hlt:D<N:=by omega
  have HNo:Hid (¬Nb n rl k1 k2):=A4 (fun h=>by
   have h2:=h.2;rw[HN.out,HX.out,hql.out]at h2;exact hbig (HD.out.2 (by omega)))
  clear hbig;go_wp2_with fail
  go_ret
  exact(HM.out.ext HX3.out).fail (by decide) HNo.out
 obtain⟨M,hM⟩:∃M:Nat,N*q=M:=⟨_,rfl⟩;have hM2:M≤200-n:=by rw[←hM];exact HD.out.1 hbig
 have hMi:(N:Int)*(q:Int)=(M:Int):=by rw[←hM];exact(Int.natCast_mul N q).symm
 have HMM:=A4 hM;have HRp:=A4 (qK (n:=N) (N:=M) HI3.out hq1 hN1 (by rw[Nat.mul_comm];exact hM) (by omega))
 clear hM;go_wp2_with fail
 refine HRp.out.mono ?_
 rintro en w4 ⟨⟨gg,rfl,hO4⟩,hx4⟩;have HPx:=A4 (HPt.out _ _ _ _ _ _ _ _ _ _ _ ((HM.out.ext HX3.out).ext hx4) hO4.ints (fun h=>by cases h) (by omega))
 clear hO4 hx4 HRp y0 y29;go_wp2_with fail
 refine HPx.out.mono ?_
 rintro en w5 ⟨⟨u,rfl⟩,cs5,e5,hm5,hmk5⟩;have u35:=hm5.oat;have v35:=hm5.blk.frozen 35;have hm6:=hm5.setAt ((p:Int)+(M:Int)-1);have HM6:=A4 hm6;have HMK:=A4 hmk5;clear hm5 hm6 hmk5 HPx;go_wp2_with fail
 go_ret
 refine HM6.out.done ⟨_,_,_,HM6.out.out,⟨HE.out,?_⟩,?_,HMK.out,?_⟩
 ·rw[HN.out,HX.out,hql.out,HMM.out];omega
 ·rw[HN.out,HX.out]
 ·rw[HN.out,HX.out,hql.out,HMM.out]
def E7 (n a:Nat)(rl:Nat→List Int)(k1 k2 v:Int):Prop:=
 (v=112∨v=80→Nb n rl k1 k2)∧(v=126→n≠0)∧(v=114→Kz k1+a≤n)∧(v=112∨v=80∨v=126∨v=114∨v=105∨v=73∨v=97∨v=65∨v=82)
def Gg (l:List Int)(n a:Nat)(rl:Nat→List Int)(k1 k2 v k5:Int)(m:List Int)(at_ md:Int)(e:List Fh):Prop:=
 (v=112∧Jf l n (min (a+1) n) rl k1 k2 m at_ e∧md=0)∨(v=80∧Jf l n a rl k1 k2 m at_ e∧md=0)∨
 (v=126∧n≠0∧m=Pu l a (min (Kz k1) (n-a))∧F3 l m e∧at_=max 0 (min ((a:Int)+(min (Kz k1) (n-a):Nat)) ((n:Int)-1))∧md=0)∨
 (v=114∧Kz k1+a≤n∧m=Pq l a (Kz k1) k5∧F3 l m e∧at_=(a:Int)+(Kz k1:Nat)-1∧md=0)∨
 (m=l∧e=[]∧((v=105∧at_=a∧md=1)∨(v=73∧at_=(F9 l:Nat)∧md=1)∨(v=97∧at_=(min (a+1) n:Nat)∧md=1)∨(v=65∧at_=(n:Nat)∧md=1)∨(v=82∧at_=a∧md=2)))
def Dl (g:Nat)(l:List Int)(n a:Nat)(rl:Nat→List Int)(k1 k2 v k5 fk fa:Int)(w:World)(cs:Array Value):Prop:=
 ∃m at_ md e,Do w (g+1) cs m at_ md fk fa rl e∧Gg l n a rl k1 k2 v k5 m at_ md e
theorem iA (h:Ep v0 w g cs A n c a rs rl k1 k2 k3 112 k5 fk fa l):
 Calls Tryz.prog 121 #[.pointer (some ⟨g,0,none⟩)] w (Ch g w (E7 n a rl k1 k2 112) (Dl g l n a rl k1 k2 112 k5 fk fa)):=by
 have N0:=trivial;exact pM
theorem mM (h:Ep v0 w g cs A n c a rs rl k1 k2 k3 80 k5 fk fa l):
 Calls Tryz.prog 121 #[.pointer (some ⟨g,0,none⟩)] w (Ch g w (E7 n a rl k1 k2 80) (Dl g l n a rl k1 k2 80 k5 fk fa)):=by
 have N1:=trivial;exact pM
theorem hU (h:Ep v0 w g cs A n c a rs rl k1 k2 k3 126 k5 fk fa l):
 Calls Tryz.prog 121 #[.pointer (some ⟨g,0,none⟩)] w (Ch g w (E7 n a rl k1 k2 126) (Dl g l n a rl k1 k2 126 k5 fk fa)):=by
 have N2:=trivial;exact pM
theorem hY (h:Ep v0 w g cs A n c a rs rl k1 k2 k3 114 k5 fk fa l):
 Calls Tryz.prog 121 #[.pointer (some ⟨g,0,none⟩)] w (Ch g w (E7 n a rl k1 k2 114) (Dl g l n a rl k1 k2 114 k5 fk fa)):=by
 have N3:=trivial;exact pM
theorem oD {n c a:Nat}(hl:Bi w A n c l)(wl:∀x∈l,(Lit.int .i64 x).wf=true)(hn:n≤200)(ha:a≤n-1):
 Calls Tryz.prog 128 #[.slice A n c,.int .i64 (a:Int),.agg #[.int .i64 94,.int .i64 0,.int .i64 0],.bool false] w fun e w'=>e=.returned (.tuple #[.int .i64 (F9 l:Nat),.bool false,.int .i64 0])∧Al w w':=by
 refine(Xm (k:=(a:Int)) (key:=94) (cnt:=0) (arg:=0) (op:=false) hl wl).mono ?_
 rintro e w' ⟨h|⟨h,_⟩,hx⟩
 ·obtain⟨_,o,ho,rfl⟩:=h
  refine⟨?_,hx⟩
  have h1:J0 94=false:=by decide
  unfold Ya at ho;rw[h1]at ho;unfold C8 E3 at ho;simp at ho;rw[ho]
  rfl
 ·exact absurd ⟨by omega,by omega,by omega,by omega,by omega,by decide⟩ h
theorem iB (h:Ep v0 w g cs A n c a rs rl k1 k2 k3 105 k5 fk fa l):
 Calls Tryz.prog 121 #[.pointer (some ⟨g,0,none⟩)] w (Ch g w (E7 n a rl k1 k2 105) (Dl g l n a rl k1 k2 105 k5 fk fa)):=by
 have N4:=trivial;exact pM
theorem mL (h:Ep v0 w g cs A n c a rs rl k1 k2 k3 82 k5 fk fa l):
 Calls Tryz.prog 121 #[.pointer (some ⟨g,0,none⟩)] w (Ch g w (E7 n a rl k1 k2 82) (Dl g l n a rl k1 k2 82 k5 fk fa)):=by
 have N5:=trivial;exact pM
theorem mO (h:Ep v0 w g cs A n c a rs rl k1 k2 k3 65 k5 fk fa l):
 Calls Tryz.prog 121 #[.pointer (some ⟨g,0,none⟩)] w (Ch g w (E7 n a rl k1 k2 65) (Dl g l n a rl k1 k2 65 k5 fk fa)):=by
 have N6:=trivial;exact pM
theorem mK (h:Ep v0 w g cs A n c a rs rl k1 k2 k3 97 k5 fk fa l):
 Calls Tryz.prog 121 #[.pointer (some ⟨g,0,none⟩)] w (Ch g w (E7 n a rl k1 k2 97) (Dl g l n a rl k1 k2 97 k5 fk fa)):=by
 have N7:=trivial;exact pM
theorem mN (h:Ep v0 w g cs A n c a rs rl k1 k2 k3 73 k5 fk fa l):
 Calls Tryz.prog 121 #[.pointer (some ⟨g,0,none⟩)] w (Ch g w (E7 n a rl k1 k2 73) (Dl g l n a rl k1 k2 73 k5 fk fa)):=by
 have N8:=trivial;exact pM
theorem mJ (h:Ep v0 w g cs A n c a rs rl k1 k2 k3 k4 k5 fk fa l)(hno:¬(k4=112∨k4=80∨k4=126∨k4=114∨k4=105∨k4=73∨k4=97∨k4=65∨k4=82)):
 Calls Tryz.prog 121 #[.pointer (some ⟨g,0,none⟩)] w (Ch g w (E7 n a rl k1 k2 k4) (Dl g l n a rl k1 k2 k4 k5 fk fa)):=by
 have N9:=trivial;exact pM
theorem gZ (h:Ep v0 w g cs A n c a rs rl k1 k2 k3 k4 k5 fk fa l):
 Calls Tryz.prog 121 #[.pointer (some ⟨g,0,none⟩)] w (Ch g w (E7 n a rl k1 k2 k4) (Dl g l n a rl k1 k2 k4 k5 fk fa)):=by
 by_cases hno:k4=112∨k4=80∨k4=126∨k4=114∨k4=105∨k4=73∨k4=97∨k4=65∨k4=82
 ·rcases hno with rfl|rfl|rfl|rfl|rfl|rfl|rfl|rfl|rfl
  ·exact iA h
  ·exact mM h
  ·exact hU h
  ·exact hY h
  ·exact iB h
  ·exact mN h
  ·exact mK h
  ·exact mO h
  ·exact mL h
 ·exact mJ h hno
def Jj (l:List Int)(n a:Nat)(rl:Nat→List Int)(k1 k2 o v k5 fk fa:Int)(m:List Int)(at_ md zk za:Int)(rl':Nat→List Int)(ed:List Fh):Prop:=
 (Mc v=true∧∃mk ma,Gl fk fa v k5=some (mk,ma,zk,za)∧((o=0∧fM l n a mk k1 ma at_∧m=l∧md=0∧rl'=rl∧ed=[])∨(o≠0∧∃f t,J8 l n a mk k1 ma f t∧Kr l a rl k2 o f t false m at_ md rl' ed)))∨
 (Mc v=false∧o=0∧zk=fk∧za=fa∧rl'=rl∧Gg l n a rl k1 k2 v k5 m at_ md ed)∨
 (Mc v=false∧o≠0∧zk=fk∧za=fa∧∃f t whole,f≤t∧t≤n∧Qz l n a o v k5 f t whole∧Kr l a rl k2 o f t whole m at_ md rl' ed)
theorem Fr.rel {g n a:Nat}{k1 k2 o v v' k5 fk fa:Int}{cs:Array Value}(h:Fr g l n a rl k1 k2 o v k5 fk fa (Dl g l n a rl k1 k2 v' k5 fk fa) w cs)(hv:o=0→v'=v):
 ∃m at_ md zk za rl' e,Do w (g+1) cs m at_ md zk za rl' e∧Jj l n a rl k1 k2 o v k5 fk fa m at_ md zk za rl' e:=by
 rcases h with⟨hm,mk,ma,zk,za,hf,⟨ho,x,h1,h2⟩|⟨ho,f,t,m,at_,md,rl',e,hr,h1,h2⟩⟩|⟨hm,ho,m,at_,md,e,h1,h2⟩|⟨hm,ho,f,t,whole,m,at_,md,rl',e,h1,h2,h3,h4,h5⟩
 ·exact⟨_,_,_,_,_,_,_,h2,.inl ⟨hm,mk,ma,hf,.inl ⟨ho,h1,rfl,rfl,rfl,rfl⟩⟩⟩
 ·exact⟨_,_,_,_,_,_,_,h1,.inl ⟨hm,mk,ma,hf,.inr ⟨ho,f,t,hr,h2⟩⟩⟩
 ·rw[hv ho]at h2
  exact⟨_,_,_,_,_,_,_,h1,.inr (.inl ⟨hm,ho,rfl,rfl,rfl,h2⟩)⟩
 ·exact⟨_,_,_,_,_,_,_,h4,.inr (.inr ⟨hm,ho,rfl,rfl,f,t,whole,h1,h2,h3,h5⟩)⟩
theorem Wh {o v:Int}(h:(Hr o v).1=0):(Hr o v).2=v∧o=0:=by
 unfold Hr at h ⊢;split
 ·rename_i ho
  rw[if_pos ho]at h;split
  ·rename_i p hp
   rw[hp]at h;have:=R9 hp;have h:p.1=0:=h;omega
  ·exact⟨rfl,ho⟩
 ·rename_i ho
  rw[if_neg ho]at h;exact absurd h ho
def tD (b:Nat)(l:List Int)(n a:Nat)(rl:Nat→List Int)(k1 k2 o v k5 fk fa:Int)(w:World)(cs:Array Value):Prop:=
 ∃g m at_ md zk za rl' e,b≤g∧Do w (g+1) cs m at_ md zk za rl' e∧Jj l n a rl k1 k2 o v k5 fk fa m at_ md zk za rl' e
theorem sN {n c:Nat}{a fk fa k1 k2 k3 k4 k5:Int}{rs:Array Value}(hl:Bi w A n c l)(wl:∀x∈l,(Lit.int .i64 x).wf=true)(hA:A=none→c=0)(hr:Ka w rs rl):
 Calls Tryz.prog 91 #[.agg #[.slice A n c,.int .i64 a],.agg rs,.agg #[.int .i64 fk,.int .i64 fa],.agg #[.int .i64 k1,.int .i64 k2,.int .i64 k3,.int .i64 k4,.int .i64 k5]] w fun e w'=>Al w w'∧
  (
   (¬(P6 n a k1 fk k3∧Lz l n a.toNat rl k1 k2 (Hr k3 k4).1 (Hr k3 k4).2 k5 fk fa (E7 n a.toNat rl k1 k2 k4))∧∃er,er≠0∧e=.returned (.tuple #[.agg Fi,.int .i64 er]))∨
   ∃vs m at_ md zk za rl' ed,e=.returned (.tuple #[.agg vs,.int .i64 0])∧P6 n a k1 fk k3∧Je w' (w.heap.size+5) vs m at_ md zk za rl' ed∧Jj l n a.toNat rl k1 k2 (Hr k3 k4).1 (Hr k3 k4).2 k5 fk fa m at_ md zk za rl' ed):=by
 refine(wC (Ok:=Lz l n a.toNat rl k1 k2 (Hr k3 k4).1 (Hr k3 k4).2 k5 fk fa (E7 n a.toNat rl k1 k2 k4)) (Post:=fun w' cs=>P6 n a k1 fk k3∧tD (w.heap.size+5) l n a.toNat rl k1 k2 (Hr k3 k4).1 (Hr k3 k4).2 k5 fk fa w' cs) hl wl hA hr ?_ ?_).mono ?_
 ·rintro w1 w2 cs ⟨hv,g,m,at_,md,zk,za,rl',e,h1,h2,h3⟩ hg
  exact⟨hv,g,m,at_,md,zk,za,rl',e,h1,h2.grown hg (by omega),h3⟩
 ·intro hv wz g cs hg hC
  have h:=mU (POk:=E7 n a.toNat rl k1 k2 k4) (PPost:=Dl g l n a.toNat rl k1 k2 k4 k5 fk fa) hC hv.2.2.2 (fun _ _ wx he=>gZ (hC.wext he))
  exact h.mono fun e w' h=>h.from ⟨rfl,rfl,rfl,Nat.le_refl _,fun _ _ _=>rfl⟩ id (fun cs h=>
   let ⟨m,at_,md,zk,za,rl',e,h1,h2⟩:=h.rel (fun h0=>(Wh h0).1.symm)
   ⟨hv,g,m,at_,md,zk,za,rl',e,hg,h1,h2⟩)
 ·rintro e w' ⟨hx,h⟩
  refine⟨hx,h.imp id ?_⟩
  rintro⟨cs,hz,h1,h2,hv,g,m,at_,md,zk,za,rl',e',h3,h4,h5⟩;exact⟨_,m,at_,md,zk,za,rl',e',h2,hv,h4.res h1 (by omega),h5⟩
theorem J8.one (h:J8 l n a key cnt arg f t)(h':J8 l n a key cnt arg f' t'):f=f'∧t=t':=by
 obtain⟨_,x,i,h1,_,_,rfl,rfl⟩:=h;obtain⟨_,x',i',h1',_,_,rfl,rfl⟩:=h';have:=Sv h1 h1';injection this with this;injection this with h2 h3;subst h2;subst h3;exact⟨rfl,rfl⟩
theorem fM.one {x x':Int}(h:fM l n a key cnt arg x)(h':fM l n a key cnt arg x'):x=x':=by
 obtain⟨_,y,i,h1,_,rfl⟩:=h;obtain⟨_,y',i',h1',_,rfl⟩:=h';have:=Sv h1 h1';injection this with this;injection this with h2 h3;subst h2
 rfl
theorem F3.one (h:F3 l m e)(h':F3 l m e'):e=e':=by
 obtain⟨k,j,h1,h2⟩:=h;obtain⟨k',j',h1',h2'⟩:=h';obtain⟨rfl,rfl⟩:=oT h1 h1';rcases h2 with⟨a1,a2,rfl⟩|⟨a1,rfl⟩<;>rcases h2' with⟨b1,b2,rfl⟩|⟨b1,rfl⟩
 ·rfl
 ·exact absurd ⟨a1,a2⟩ b1
 ·exact absurd ⟨b1,b2⟩ a1
 ·rfl
theorem Q3.one {k2:Int}{x:List Int}(hft:f≤t)(h:Q3 rl k2 f t x r)(h':Q3 rl k2 f t x r'):r=r':=by
 by_cases he:f=t
 ·rw[h.1 he,h'.1 he]
 ·obtain⟨i,m,h1,_,rfl⟩:=h.2 (by omega)
  obtain⟨i',m',h1',_,rfl⟩:=h'.2 (by omega)
  rw[h1]at h1';injection h1' with h1';injection h1' with e1 e2;subst e1;subst e2
  rfl
theorem Kr.one {a:Int}{k2 k3:Int}(hft:f≤t)(h:Kr l a rl k2 k3 f t whole m at_ md r e)(h':Kr l a rl k2 k3 f t whole m' at' md' r' e'):m=m'∧at_=at'∧md=md'∧r=r'∧e=e':=by
 obtain⟨_,hk,h⟩:=h;obtain⟨_,hk',h'⟩:=h';have hr:=hk.one hft hk';rcases h with⟨a1,rfl,rfl,rfl,rfl⟩|⟨a1,hm,he,ha⟩<;>rcases h' with⟨b1,rfl,rfl,rfl,rfl⟩|⟨b1,hm',he',hb⟩
 ·exact⟨rfl,rfl,rfl,hr,rfl⟩
 ·exact absurd a1 b1
 ·exact absurd b1 a1
 ·have:m=m':=hm.trans hm'.symm
  subst this;have hee:=he.one he';rcases ha with⟨c1,c2,c3⟩|⟨c1,c2,c3⟩<;>rcases hb with⟨d1,d2,d3⟩|⟨d1,d2,d3⟩
  ·exact⟨rfl,c2.trans d2.symm,c3.trans d3.symm,hr,hee⟩
  ·exact absurd c1 d1
  ·exact absurd d1 c1
  ·exact⟨rfl,c3.trans d3.symm,c2.trans d2.symm,hr,hee⟩
theorem Kr.ok {a:Int}{k2 k3:Int}{r:Nat→List Int}(h:Kr l a rl k2 k3 f t whole m at_ md r e):Uw l rl k2 k3 f t:=
 ⟨h.1,fun hlt=>let ⟨i,m',h1,h2,_⟩:=h.2.1.2 hlt;⟨i,m',h1,h2⟩⟩
theorem Jf.one {n p:Nat}{k1 k2:Int}{at_ at':Int}(h:Jf l n p rl k1 k2 m at_ e)(h':Jf l n p rl k1 k2 m' at' e'):m=m'∧at_=at'∧e=e':=by
 obtain⟨_,hm,he,ha⟩:=h;obtain⟨_,hm',he',ha'⟩:=h';have:m=m':=hm.trans hm'.symm;subst this;exact⟨rfl,ha.trans ha'.symm,he.one he'⟩
theorem Gg.one (h:Gg l n a rl k1 k2 v k5 m at_ md e)(h':Gg l n a rl k1 k2 v k5 m' at' md' e'):m=m'∧at_=at'∧md=md'∧e=e':=by
 rcases h with⟨hv,h,hd⟩|⟨hv,h,hd⟩|⟨hv,_,hm,he,ha,hd⟩|⟨hv,_,hm,he,ha,hd⟩|⟨rfl,rfl,h⟩<;>rcases h' with⟨gv,g,gd⟩|⟨gv,g,gd⟩|⟨gv,_,gm,ge,ga,gd⟩|⟨gv,_,gm,ge,ga,gd⟩|⟨rfl,rfl,g⟩
 case inl.inl=>obtain⟨h1,h2,h3⟩:=h.one g;exact⟨h1,h2,hd.trans gd.symm,h3⟩
 case inr.inl.inr.inl=>obtain⟨h1,h2,h3⟩:=h.one g;exact⟨h1,h2,hd.trans gd.symm,h3⟩
 case inr.inr.inl.inr.inr.inl=>
  exact I86
 case inr.inr.inr.inl.inr.inr.inr.inl=>
  exact I86
 case inr.inr.inr.inr.inr.inr.inr.inr=>
  refine⟨rfl,?_,?_,rfl⟩
  ·rcases h with⟨h1,h2,_⟩|⟨h1,h2,_⟩|⟨h1,h2,_⟩|⟨h1,h2,_⟩|⟨h1,h2,_⟩<;>rcases g with⟨g1,g2,_⟩|⟨g1,g2,_⟩|⟨g1,g2,_⟩|⟨g1,g2,_⟩|⟨g1,g2,_⟩<;>omega
  ·rcases h with⟨h1,_,h2⟩|⟨h1,_,h2⟩|⟨h1,_,h2⟩|⟨h1,_,h2⟩|⟨h1,_,h2⟩<;>rcases g with⟨g1,_,g2⟩|⟨g1,_,g2⟩|⟨g1,_,g2⟩|⟨g1,_,g2⟩|⟨g1,_,g2⟩<;>omega
 all_goals
  exfalso
  first
   |omega
   |(rcases h with⟨h1,_⟩|⟨h1,_⟩|⟨h1,_⟩|⟨h1,_⟩|⟨h1,_⟩<;>omega)
   |(rcases g with⟨h1,_⟩|⟨h1,_⟩|⟨h1,_⟩|⟨h1,_⟩|⟨h1,_⟩<;>omega)
theorem Gg.ok (h:Gg l n a rl k1 k2 v k5 m at_ md e):E7 n a rl k1 k2 v:=by
 rcases h with⟨rfl,h,hd⟩|⟨rfl,h,hd⟩|⟨rfl,h0,_⟩|⟨rfl,h0,_⟩|⟨_,_,h⟩
 ·exact I115
 ·exact I115
 ·exact⟨fun h=>(by omega),fun _=>h0,fun h=>(by omega),by omega⟩
 ·exact⟨fun h=>(by omega),fun h=>(by omega),fun _=>h0,by omega⟩
 ·have hv:v=105∨v=73∨v=97∨v=65∨v=82:=by
   rcases h with⟨h1,_⟩|⟨h1,_⟩|⟨h1,_⟩|⟨h1,_⟩|⟨h1,_⟩<;>omega
  exact⟨fun h=>(by omega),fun h=>(by omega),fun h=>(by omega),by omega⟩
theorem Qz.one {o v k5:Int}{w w':Bool}(h:Qz l n a o v k5 f t w)(h':Qz l n a o v k5 f' t' w'):f=f'∧t=t'∧w=w':=by
 rcases h with⟨h1,rfl,rfl,rfl⟩|⟨h1,_,rfl,h2⟩<;>rcases h' with⟨g1,rfl,rfl,rfl⟩|⟨g1,_,rfl,g2⟩
 ·exact⟨rfl,rfl,rfl⟩
 ·exact absurd h1 g1
 ·exact absurd g1 h1
 ·obtain⟨e1,e2,_⟩:=eS h2 g2
  exact⟨by omega,by omega,rfl⟩
theorem Jj.one {rl r r':Nat→List Int}{k1 k2 o v k5 fk fa zk za zk' za':Int}(h:Jj l n a rl k1 k2 o v k5 fk fa m at_ md zk za r e)(h':Jj l n a rl k1 k2 o v k5 fk fa m' at' md' zk' za' r' e')(ha:a≤n-1):m=m'∧at_=at'∧md=md'∧zk=zk'∧za=za'∧r=r'∧e=e':=by
 rcases h with⟨hm,mk,ma,hf,h⟩|⟨hm,ho,h1,h2,h3,h⟩|⟨hm,ho,h1,h2,f,t,wh,hft,_,hs,h⟩<;>rcases h' with⟨gm,mk',ma',gf,g⟩|⟨gm,go,g1,g2,g3,g⟩|⟨gm,go,g1,g2,f',t',wh',gft,_,gs,g⟩
 ·rw[hf]at gf
  injection gf with gf;simp only[Prod.mk.injEq]at gf;obtain⟨rfl,rfl,rfl,rfl⟩:=gf;rcases h with⟨ho,h1,rfl,rfl,rfl,rfl⟩|⟨ho,f,t,h1,h2⟩<;>rcases g with⟨go,g1,rfl,rfl,rfl,rfl⟩|⟨go,f',t',g1,g2⟩
  ·exact⟨rfl,h1.one g1,rfl,rfl,rfl,rfl,rfl⟩
  ·exact absurd ho go
  ·exact absurd go ho
  ·obtain⟨rfl,rfl⟩:=h1.one g1
   obtain⟨e1,e2,e3,e4,e5⟩:=h2.one (h1.bd ha).2.2.1 g2;exact⟨e1,e2,e3,rfl,rfl,e4,e5⟩
 ·rw[hm]at gm;cases gm
 ·rw[hm]at gm;cases gm
 ·rw[hm]at gm;cases gm
 ·obtain⟨e1,e2,e3,e4⟩:=h.one g
  exact⟨e1,e2,e3,h1.trans g1.symm,h2.trans g2.symm,h3.trans g3.symm,e4⟩
 ·exact absurd ho go
 ·rw[hm]at gm;cases gm
 ·exact absurd go ho
 ·obtain⟨rfl,rfl,rfl⟩:=hs.one gs
  obtain⟨e1,e2,e3,e4,e5⟩:=h.one hft g;exact⟨e1,e2,e3,h1.trans g1.symm,h2.trans g2.symm,e4,e5⟩
theorem Jj.ok {rl r:Nat→List Int}{k1 k2 o v k4 k5 fk fa zk za:Int}(h:Jj l n a rl k1 k2 o v k5 fk fa m at_ md zk za r e)(hv:o=0→v=k4):Lz l n a rl k1 k2 o v k5 fk fa (E7 n a rl k1 k2 k4):=by
 rcases h with⟨hm,mk,ma,hf,h⟩|⟨hm,ho,h1,h2,h3,h⟩|⟨hm,ho,h1,h2,f,t,wh,hft,_,hs,h⟩
 ·refine⟨fun _=>⟨mk,ma,zk,za,hf,?_⟩,fun h=>(by rw[hm]at h;cases h),fun h=>(by rw[hm]at h;cases h)⟩
  rcases h with⟨ho,h1,_⟩|⟨ho,f,t,h1,h2⟩
  ·obtain⟨hok,y,i,h3,_⟩:=h1
   refine⟨hok,fun hn=>?_,fun h=>absurd ho h⟩
   rw[show decide (o≠0)=false by simp[ho]]at hn
   have:=Sv hn h3;cases this
  ·have h1':=h1
   obtain⟨hok,y,i,h3,_⟩:=h1;refine⟨hok,fun hn=>?_,fun _ f' t' hr=>?_⟩
   ·rw[show decide (o≠0)=true by simp[ho]]at hn
    have:=Sv hn h3;cases this
   ·obtain⟨rfl,rfl⟩:=h1'.one hr
    exact h2.ok
 ·refine⟨fun h=>(by rw[hm]at h;cases h),fun _ _=>?_,fun _ h=>absurd ho h⟩
  rw[←hv ho];exact h.ok
 ·refine⟨fun h=>(by rw[hm]at h;cases h),fun _ h=>absurd h ho,fun _ _=>?_⟩
  rcases hs with⟨s1,rfl,rfl,_⟩|⟨s1,s2,_,s3⟩
  ·exact .inl ⟨s1,h.ok⟩
  ·exact .inr ⟨s1,s2,f,t,s3,h.ok⟩
theorem Je.regs' {b:Nat}(h:Je w b vs m at_ md fk fa rl e):E8 w b (vs.extract 2 29) rl:=
 ⟨by simp[h.size],fun i hi=>by
  obtain⟨v,h1,h2⟩:=h.regs i hi;exact⟨v,by rw[Array.getElem?_extract,if_pos (by have:=h.size;omega)];exact h1,h2⟩⟩
theorem Ms {n:Nat}{a:Int}(h1:0≤a)(h2:a≤max 0 ((n:Int)-1)):a.toNat≤n-1:=by omega
theorem Je.grown {w w':World}{b g:Nat}(h:Je w b vs m at_ md fk fa rl e)(hg:w.grownBy w' (some g))(hb:g<b):Je w' b vs m at_ md fk fa rl e:=
 {
  h with
  text:=let ⟨B,q,d,h1,h2⟩:=h.text;⟨B,q,d,h1,h2.grown hg hb⟩
  regs:=fun j hj=>let ⟨v,h1,h2⟩:=h.regs j hj;⟨v,h1,h2.grown hg hb⟩
  edit:=let ⟨v,h1,h2⟩:=h.edit;⟨v,h1,h2.grown hg hb⟩
  far:=fun B q d h0 g' hg'=>by
   obtain⟨h1,v,h2,h3⟩:=h.far B q d h0 g' hg';obtain⟨B',q',d',h4,h5⟩:=h.text;rw[h0]at h4;injection h4 with h4;injection h4 with e1 e2 e3;subst e1;subst e2;subst e3;have:=(Ay.blk h5 g' hg').1;exact⟨h1,v,h2,h3.grown hg (by omega)⟩ }
theorem Je.spoilt {w w':World}{b:Nat}(h:Je w b vs m at_ md fk fa rl e){B:Option Addr}{q d:Nat}(h0:vs[0]? = some (.slice B q d))(hg:w.grownBy w' (Aj B q d).ownBlock):E8 w' b (vs.extract 2 29) rl∧∃v,vs[32]? = some v∧Dq w' 0 v e:=by
 have hr:=h.regs';cases hB:(Aj B q d).ownBlock with
 |none=>
  rw[hB]at hg;refine⟨⟨hr.1,fun i hi=>?_⟩,?_⟩
  ·obtain⟨v,h1,h2⟩:=hr.2 i hi
   exact⟨v,h1,h2.kept hg (fun k hk e=>by cases e)⟩
  ·obtain⟨v,h1,h2⟩:=h.edit
   exact⟨v,h1,(h2.lower (Aw _)).kept hg (fun k e=>by cases e)⟩
 |some g'=>
  obtain⟨h1,v,h2,h3⟩:=h.far B q d h0 g' hB;rw[hB]at hg;refine⟨⟨hr.1,fun i hi=>?_⟩,v,h2,(h3.grown hg (Nat.lt_succ_self _)).lower (Aw _)⟩
  obtain⟨u,h4,h5⟩:=h.regs i hi;refine⟨u,by rw[Array.getElem?_extract,if_pos (by have:=h.size;omega)];exact h4,h5.kept hg (fun k hk e=>?_)⟩
  injection e with e;subst e;exact h1 i hi u h4 hk
theorem Zy {A B:Option Addr}{n c m d:Nat}{a:Int}(hl:Bi w A n c l)(hl':Bi w B m d l):
 Calls Tryz.prog 19 #[.agg #[.slice A n c,.int .i64 a],.agg #[.slice B m d,.int .i64 a]] w fun e w'=>e=.returned (.bool true)∧Al w w':=by
 have hb1:=(An.new w 34 #[.slice A n c,.int .i64 a]).ext (Al.alloc _ (.cells #[.slice B m d,.int .i64 a] 34));have hb2:An ((w.alloc (.cells #[.slice A n c,.int .i64 a] 34)).alloc (.cells #[.slice B m d,.int .i64 a] 34)) (w.heap.size+1) 34 #[.slice B m d,.int .i64 a]:=by
  have:=An.new (w.alloc (.cells #[.slice A n c,.int .i64 a] 34)) 34 #[.slice B m d,.int .i64 a]
  rwa[World.size_alloc]at this
 have hx:Al w ((w.alloc (.cells #[.slice A n c,.int .i64 a] 34)).alloc (.cells #[.slice B m d,.int .i64 a] 34)):=(Al.alloc _ _).to_alloc _;have HEq:=A4 (J4 (hl.ext hx) (hl'.ext hx));rw[Lf.2 rfl]at HEq;have HX:=A4 hx;have B1:=A4 hb1;have B2:=A4 hb2;clear hl hl' hx hb1 hb2;go_enter Tryz.func19,Tryz.ntmps19
 go_upto_region 1 with fail
 generalize (w.alloc (.cells #[.slice A n c,.int .i64 a] 34)).alloc (.cells #[.slice B m d,.int .i64 a] 34)=W at*;obtain⟨c0,c1⟩:=Ef B1.out;obtain⟨d0,d1⟩:=Ef B2.out;have haa:(a==a)=true:=by simp
 go_wp2_with fail
 refine HEq.out.mono ?_
 rintro e w' ⟨rfl,he⟩;have HX2:=A4 (HX.out.trans he);clear he HEq;go_wp2_with fail
 go_ret
 exact⟨rfl,HX2.out⟩
theorem F3.good (h:F3 l m e)(hl:l.length≤4096)(hm:m.length≤4096):fJ l.length e=0∧Yh l 0 e=m:=by
 obtain⟨k,j,hb,⟨h1,h2,rfl⟩|⟨h1,rfl⟩⟩:=h
 ·refine⟨Rl.2 ⟨by omega,by omega,trivial,?_⟩,?_⟩
  ·simp only[Ye];omega
  ·rw[jP hb h1 h2];simp[Yh]
 ·exact⟨sV hb hl hm h1,fF hb⟩
theorem Rg (hl:l.length≤4096):fJ l.length []=0∧Yh l 0 []=l:=
 ⟨Rl.2 ⟨by omega,by omega,trivial,by simp only[Ye];omega⟩,by simp[Yh]⟩
def eC (l:List Int)(n:Nat)(m:List Int)(at_ md:Int)(ed:List Fh):Prop:=
 m.length≤200∧0≤at_∧(md=0→at_≤max 0 ((m.length:Int)-1))∧(md≠0→at_≤m.length)∧fJ n ed=0∧Yh l 0 ed=m
theorem lE {n a f t:Nat}{k2 o:Int}(h:Kr l a rl k2 o f t whole m at_ md rl' ed)(hl:l.length=n)(hn:n≤200)(ha:a≤n-1)(hft:f≤t)(htn:t≤n):eC l n m at_ md ed:=by
 obtain⟨_,_,⟨_,rfl,rfl,rfl,hat⟩|⟨_,hm,he,hh⟩⟩:=h
 ·have hg:=Rg (l:=m) (by omega)
  rw[hl]at hg;refine⟨by omega,?_,fun _=>?_,fun h=>absurd rfl h,hg.1,hg.2⟩
  ·rw[hat];split<;>omega
  ·rw[hat];split<;>omega
 ·have hml:m.length=f+(n-t):=by rw[hm];simp;omega
  have hg:=he.good (by omega) (by omega)
  rw[hl]at hg;refine⟨by omega,?_,fun hd=>?_,fun hd=>?_,hg.1,hg.2⟩
  ·rcases hh with⟨_,h1,_⟩|⟨_,_,h1⟩<;>omega
  ·rcases hh with⟨_,h1,h2⟩|⟨_,_,h1⟩<;>omega
  ·rcases hh with⟨_,h1,h2⟩|⟨_,h2,h1⟩<;>omega
theorem iY (l:List Int):F9 l≤l.length-1:=by
 unfold F9;split<;>omega
theorem jA {a k:Nat}{x:Int}(h:a+k≤l.length):(Pq l a k x).length=l.length:=by
 unfold Pq;simp;omega
theorem jT (h:Gg l n a rl k1 k2 v k5 m at_ md ed)(hl:l.length=n)(hn:n≤200)(ha:a≤n-1):eC l n m at_ md ed:=by
 have hN:1≤Kz k1:=by unfold Kz;omega
 have paste:∀p,p≤n→Jf l n p rl k1 k2 m at_ ed→md=0→eC l n m at_ md ed:=by
  rintro p hp ⟨⟨h1,h2⟩,h3,h4,h5⟩ rfl;have hx:=Zb h1;have hN1:1≤Kz k1*(Ny rl k2).length:=Nat.mul_pos hN hx;have hml:m.length=n+Kz k1*(Ny rl k2).length:=by rw[h3];simp[Kd];omega
  have hg:=h4.good (by omega) (by omega)
  exact I97
 rcases h with⟨_,h,h2⟩|⟨_,h,h2⟩|⟨_,h0,hm,he,hat,hd⟩|⟨_,h0,hm,he,hat,hd⟩|⟨rfl,rfl,h⟩
 ·exact paste _ (by omega) h h2
 ·exact paste _ (by omega) h h2
 ·have hml:m.length=n:=by rw[hm,jM (by omega)];exact hl
  exact I68
 ·have hml:m.length=n:=by rw[hm,jA (by omega)];exact hl
  exact I68
 ·have hg:=Rg (l:=m) (by omega)
  rw[hl]at hg;have hf:=iY m;refine⟨by omega,?_,fun hd=>?_,fun hd=>?_,hg.1,hg.2⟩
  ·exact I47
  ·exact I47
  ·exact I47
theorem lF {k1 k2 o v k5 fk fa zk za:Int}(h:Jj l n a rl k1 k2 o v k5 fk fa m at_ md zk za rl' ed)(hl:l.length=n)(hn:n≤200)(ha:a≤n-1):eC l n m at_ md ed:=by
 rcases h with⟨_,mk,ma,_,⟨_,h1,rfl,rfl,_,rfl⟩|⟨_,f,t,h1,h2⟩⟩|⟨_,_,_,_,_,h⟩|⟨_,_,_,_,f,t,whole,h1,h2,_,h3⟩
 ·obtain⟨_,y,i,_,h3,h4⟩:=h1
  have hg:=Rg (l:=m) (by omega)
  exact I97
 ·have hbd:=h1.bd ha
  exact lE h2 hl hn ha hbd.2.2.1 hbd.2.2.2
 ·exact jT h hl hn ha
 ·exact lE h3 hl hn ha h1 h2
end
