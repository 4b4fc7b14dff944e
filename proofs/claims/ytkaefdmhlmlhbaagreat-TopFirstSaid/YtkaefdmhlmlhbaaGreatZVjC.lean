/-
  Part ZVjC.
-/
import Derived.Test.YtkaefdmhlmlhbaaGreatZViP
import Derived.Test.YtkaefdmhlmlhbaaGreatZPaiS
set_option maxRecDepth 100000
set_option maxHeartbeats 16000000
set_option linter.unusedVariables false
set_option linter.unusedSimpArgs false
namespace Go.Proofs.YtkaefdmhlmlhbaaGreat
open Go.RowKit
open _root_.Go.Proofs.Tryz
open Act renaming put→Ao
open AllReadyH renaming cons→Ai,nil→Am
open _root_.And renaming intro→Au
open _root_.List renaming getElem_cons_succ→Ab,getElem_cons_zero→Aa,getElem_toArray→Ac,setIfInBounds_toArray→A7,set_cons_succ→Ae,set_cons_zero→Ad
open _root_.Nat renaming le_refl→Aj,zero_le→B8
open Value renaming int→Av,slice→Ak
open World renaming setCell→Bh
section
variable {col:Nat→Nat}{s:PS}
noncomputable def Jo (s:PS):PS:=
 { s with
  off:=Qc s.at_ s.off s.width,row:=Jm s.tx (Qc s.at_ s.off s.width) s.width.toNat,rat:=s.at_-Qc s.at_ s.off s.width,
  vis:=s.vis++F0 s.row s.rat.toNat (Jm s.tx (Qc s.at_ s.off s.width) s.width.toNat) (s.at_-Qc s.at_ s.off s.width).toNat }
structure aH (W:Nat)(s:PS):Prop where
 width:s.width=W
 lo:2≤W
 hi:W≤120
 off:0≤s.off∧s.off≤200
 row:Ug s.row W s.rat
 len:s.row.length=W
theorem fS {at_ off:Int}{n W:Nat}(h1:0≤at_)(h2:at_≤n)(h3:n≤200)(h4:0≤off∧off≤200)(hw:2≤W)(hW:W≤120):
 ¬Yd n at_ off W∧¬Yd n at_ (Qc at_ off W) W∧Qc at_ (Qc at_ off W) W=Qc at_ off W∧0≤at_-Qc at_ off W∧at_-Qc at_ off W≤W∧0≤Qc at_ off W∧Qc at_ off W≤200:=by
 unfold Yd Qc;refine⟨by omega,?_,?_,?_,?_,?_,?_⟩<;>(repeat' split)<;>omega
theorem kU (l:List Int){k r:Int}{W:Nat}(hw:2≤W)(hW:W≤120)(h1:0≤r)(h2:r≤W):Ug (Jm l k W) W r:=
 ⟨hw,hW,h1,h2,fun i hi=>by rw[yP l k hi];exact eZ l k i⟩
theorem aH.show {W:Nat}(h:aH W s)(hl:xP s):aH W (Jo s):=by
 obtain⟨h1,h2,h3,h4,h5,h6⟩:=h;obtain⟨k1,k2,k3,k4,k5,k6,k7⟩:=fS hl.lo hl.hi hl.len h4 h2 h3;refine⟨h1,h2,h3,?_,?_,?_⟩
 ·show 0≤Qc s.at_ s.off s.width∧Qc s.at_ s.off s.width≤200
  rw[h1];exact⟨k6,k7⟩
 ·show Ug (Jm s.tx (Qc s.at_ s.off s.width) s.width.toNat) W (s.at_-Qc s.at_ s.off s.width)
  rw[h1];exact kU _ h2 h3 k4 k5
 ·show(Jm s.tx (Qc s.at_ s.off s.width) s.width.toNat).length=W
  rw[cS,h1];rfl
theorem Dm.see {w w':World}{p n c m c2:Nat}{v:SV}{A A2:Option Addr}{news:List Int}(h:Dm w col p v s)(hv:v.vis=.slice A n c)
 (hO:Bd w' 0 3 1 A2 (n+m) c2 (s.vis.map (Av .i64)++news.map (Av .i64))) (av:w.grownBy w' (Ak A n c).ownBlock)
 (cf:(Ak A2 (n+m) c2).ownBlock=(Ak A n c).ownBlock∨(Ak A2 (n+m) c2).ownBlock=some w.heap.size):
 ∃col',Dm (w'.setCell ⟨p,57,none⟩ (.slice A2 (n+m) c2)) col' p { v with vis:=.slice A2 (n+m) c2 } { s with vis:=s.vis++news }∧Km w col (w'.setCell ⟨p,57,none⟩ (.slice A2 (n+m) c2)) col':=by
 obtain⟨A',n',c',nt,ho,hg⟩:=h.vis;rw[hv]at nt;injection nt with e1 e2 e3;subst e1 e2 e3;rw[hv]at hg;have h7:=h.ses.own;have Im:(Ak A n c).ownBlock≠some p:=fun e=>by have:=hg p e;omega
 have ae:=h.ses.blk.lt;have yi:(Ak A2 (n+m) c2).ownBlock≠some p:=fun e=>by
  rcases cf with e'|e'
  ·exact Im (e'.symm.trans e)
  ·rw[e']at e;injection e with e;omega
 have ap:=h.ses.blk.grown av fun e=>Im e.symm
 have bn:=ap.set_ 57 (.slice A2 (n+m) c2);have EJ:=Gw.of_own ho av (by decide)
 have nw:=(EJ.mono (M':=fun k=>(Ak A n c).ownBlock=some k∨k=p) fun k _ e=>.inl e).trans (Gw.set ap (by decide) 57 (.slice A2 (n+m) c2)) fun g _ e=>.inr e
 have fd:Bd (w'.setCell ⟨p,57,none⟩ (.slice A2 (n+m) c2)) 0 3 1 A2 (n+m) c2 (s.vis.map (Av .i64)++news.map (Av .i64)):=Bd.same hO fun g hg=>Cs fun e=>yi (by rw[hg];exact congrArg some e)
 have hold:∀g,g<w.heap.size→(if(Ak A2 (n+m) c2).ownBlock=some g then 6 else col g)=col g:=fun g cr=>by
  split
  ·rename_i e
   rcases cf with e'|e'
   ·exact(hg g (e'.symm.trans e)).symm
   ·rw[e']at e;injection e with e;omega
  ·rfl
 have hm:∀d,d≠6→d≠7→∀g,g<w.heap.size→((Ak A n c).ownBlock=some g∨g=p)→col g≠d:=fun d h1 h2 g _ e=>by
  exact I98
 refine⟨fun g=>if(Ak A2 (n+m) c2).ownBlock=some g then 6 else col g,⟨⟨bn,(if_neg yi).trans h7,(h.ses.dat.turn nw (hm 1 (by decide) (by decide)) hold).imp fun _ h=>⟨h.1,h.2,h.3,h.4,h.5,h.6,h.7,h.8⟩,h.ses.now.turn nw (fun g h1 h2=>⟨hm 2 (by decide) (by decide) g h1 h2,hm 3 (by decide) (by decide) g h1 h2⟩) hold,fun g cr=>?_⟩,h.told.turn nw (fun g h1 h2=>⟨hm 4 (by decide) (by decide) g h1 h2,hm 5 (by decide) (by decide) g h1 h2⟩) hold,?_⟩,nw.mono fun g h1 h2=>?_,fun g h1 h2=>by rw[←hold g h1];exact h2,fun g h1 e=>(hold g h1).trans e⟩
 ·by_cases e:(Ak A2 (n+m) c2).ownBlock=some g
  ·exact(Bd.blk fd g e).2
  ·have cr:(if(Ak A2 (n+m) c2).ownBlock=some g then 6 else col g)≠0:=cr
   exact I81
 ·exact⟨A2,n+m,c2,rfl,by unfold Ba;rw[List.map_append];exact fd,fun g e=>if_pos e⟩
 ·rcases h2 with e|rfl
  ·rw[hg g e];decide
  ·rw[h7];decide
theorem tG {w4 w6 w7:World}{p n c m c2 W g5 b d:Nat}{v:SV}{A A2 B:Option Addr}{news row:List Int}{ra:Nat}(h:Dm w4 col p v s)(he:An w4 w6)(hv:v.vis=.slice A n c)
 (jn:Ba w6 b B W d row) (EZ:w4.heap.size≤b) (hW:W≤120) (cg:Aq w6 g5 41 #[.slice B W d,.int .i64 (ra:Int)]) (mu:w4.heap.size≤g5)
 (hO:Bd w7 0 3 1 A2 (n+m) c2 (s.vis.map (Av .i64)++news.map (Av .i64))) (av:w6.grownBy w7 (Ak A n c).ownBlock)
 (cf:(Ak A2 (n+m) c2).ownBlock=(Ak A n c).ownBlock∨(Ak A2 (n+m) c2).ownBlock=some w6.heap.size):
 Aq w7 p 100 (Nn v s)∧Aq (w7.setCell ⟨p,57,none⟩ (.slice A2 (n+m) c2)) g5 41 #[.slice B W d,.int .i64 (ra:Int)]∧
 Aq (w7.setCell ⟨p,57,none⟩ (.slice A2 (n+m) c2)) p 100 (Nn { v with vis:=.slice A2 (n+m) c2 } s)∧
 C6 p w4 col { s with vis:=s.vis++news,row:=row,rat:=(ra:Int) } (((w7.setCell ⟨p,57,none⟩ (.slice A2 (n+m) c2)).setCell ⟨p,53,none⟩ (.slice B W d)).setCell ⟨p,54,none⟩ (.int .i64 (ra:Int))):=by
 obtain⟨xd,TB⟩:=h.grow he 1;obtain⟨col8,nu,oo⟩:=xd.see hv hO av cf;have yj:Bl w6 b (.slice B W d) row:=⟨B,W,d,rfl,jn,Bd.nocap' jn,by omega⟩
 have hD:=(Jd.reg (F:=fun k=>Go.Proofs.YtkaefdmhlmlhbaaGreat.grow col w4.heap.size w6.heap.size 1 k=1) yj fun k h1 h2=>Jy (Nat.le_trans EZ h1) h2).trn oo
 have c:=((E5.start (An.refl _) nu.ses.blk).set 53 (.slice B W d)).set 54 (.int .i64 (ra:Int));have hr:=nu.chainD hD c { { v with vis:=.slice A2 (n+m) c2 }with row:=.slice B W d } { { s with vis:=s.vis++news }with row:=row,rat:=(ra:Int) } (by kernel_rfl) fun w'' ou o6 el=>⟨el.1,el.2,el.3,el.4,el.5,el.6,el.7,o6⟩
 refine⟨xd.ses.blk.grown av fun e=>?_,oo.1.blk cg fun hn=>hn.2 (Jy mu cg.lt),nu.ses.blk,_,_,hr.1,TB.trans (oo.trans hr.2)⟩
 obtain⟨A',n',c',nt,ho,hg⟩:=xd.vis;rw[hv]at hg;have h1:=hg p e.symm;have h7:=xd.ses.own;omega
theorem Z4 {a b:List Int}{st at_ n:Nat}(ha:a.length=n)(hb:Ug b n (at_:Int))(hl:b.length=n)(j8:st≤n):(F0 a st b at_).length≤1000:=by
 obtain⟨_,h1,_,h2,h3⟩:=hb;have h:=(nA (a:=a) (b:=b) (st:=st) (at_:=at_) (ha.trans hl.symm) (fun k hk=>h3 k (by omega)) (by omega) (by omega)).2.1
 have h4:=(Su b b.length).1;have h5:L7 (Fn b b.length) at_≤300:=by unfold L7;split<;>omega
 omega
theorem aU {r:Int}(h:0≤r):((r.toNat:Nat):Int)=r:=Int.toNat_of_nonneg h
theorem tC {w:World}{p W:Nat}{v:SV}(h:Dm w col p v s)(hl:xP s)(ok:aH W s)(YJ:s.vis.length≤1000000000):
 Calls prog 41 #[.pointer (some ⟨p,0,none⟩)] w fun e w'=>e=.returned (.tuple #[])∧C6 p w col (Jo s) w':=by
 obtain⟨i0,hi,bm,bz,az⟩:=info_parts Cd;obtain⟨kb1,kb2,kb3,kb4,kb5,kb6,kb7⟩:=fS hl.lo hl.hi hl.len ok.off ok.lo ok.hi;have hb:=h.ses.blk;have Ip:=ok.width;have CA:=ok.row;obtain⟨rt,TC⟩:∃r:Nat,s.rat=(r:Int):=⟨s.rat.toNat,(aU CA.2.2.1).symm⟩;obtain⟨ra,TD⟩:∃r:Nat,s.at_-Qc s.at_ s.off W=(r:Int):=⟨_,(aU kb4).symm⟩;obtain⟨Wi,TE⟩:∃x:Int,x=(W:Int):=⟨_,rfl⟩;obtain⟨q1,TF⟩:∃x,x=Qc s.at_ s.off W:=⟨_,rfl⟩;rw[←TF]at kb2 kb3 kb4 kb5 TD;have QO:Ug (Jm s.tx q1 W) W (ra:Int):=kU _ ok.lo ok.hi (by omega) (by omega)
 have ic:Hid (Jo s={ { s with off:=q1 }with vis:=s.vis++F0 s.row rt (Jm s.tx q1 W) ra,row:=Jm s.tx q1 W,rat:=(ra:Int) }):=A6 (by
  unfold Jo;rw[Ip,←TF,TC,TD]
  rfl)
 have ru:Hid (∀wq,An w wq→Calls prog 62 #[.agg #[.pointer v.tr]] wq fun e w'=>∃u,e=.returned u∧u=.int .i64 s.tx.length∧An wq w'):=
  A6 fun wq he=>(aN (h.ext he).ses.dat.here.tr).mono fun e w' ⟨h1,h2⟩=>⟨_,h1,by rw[(Wk (by have:=hl.len;omega)).2],h2⟩
 have YK:Hid (∀wq,Calls prog 67 #[.int .i64 s.tx.length,.int .i64 s.at_,.int .i64 s.off,.int .i64 Wi] wq fun e w'=>∃u,e=.returned u∧u=.tuple #[q1,(0:Int)]∧An wq w'):=
  A6 fun wq=>by rw[TE];exact(Un kb1).mono fun e w' ⟨h1,h2⟩=>⟨_,h1,by rw[TF],h2▸An.refl _⟩
 have e14:∀wq,An w wq→wq.cell? ⟨p,52,none⟩=some (.int .i64 Wi):=fun wq he=>((hb.ext he).cell 52).trans (by rw[TE,←Ip];rfl)
 have H14:=A6 e14;have H:=A6 h;have OE:Hid (∀wq A n c,Bj wq A n c s.tx→Calls prog 68 #[.slice A n c,.int .i64 s.at_,.int .i64 q1,.int .i64 Wi] wq fun e w'=>∃u,e=.returned u∧(∃B d,u=.tuple #[.agg #[.slice B W d,ra],(0:Int)]∧Ba w' wq.heap.size B W d (Jm s.tx q1 W))∧An wq w'):=
  A6 fun wq A n c hI=>by
   rw[TE];refine(J3j hI (by rw[←hI.len];exact kb2) kb3).mono fun e w' ⟨B,d,h1,h2,h3⟩=>⟨_,h1,⟨B,d,by rw[TD],h2⟩,h3⟩
 obtain⟨A8,n8,c8,OF,ho8,DW⟩:=h.vis;have YL:=ho8.ints.len;obtain⟨A9,n9,k9,mv,lf,qd,As⟩:=h.ses.dat.here.row;have KF:n9=W:=by rw[←lf.ints.len];exact ok.len
 subst KF;have ul:(F0 s.row rt (Jm s.tx q1 n9) ra).length≤1000:=Z4 ok.len QO (cS _ _ _) (by have:=CA.2.2.2.1;omega)
 have YM:Hid (∀wq B d,Bj wq A9 n9 k9 s.row→Ba wq 0 B n9 d (Jm s.tx q1 n9)→Calls prog 69 #[.agg #[.slice A9 n9 k9,rt],.agg #[.slice B n9 d,ra]] wq fun e w'=>∃u,e=.returned u∧(∃S q r,u=.tuple #[.slice S q r,(0:Int)]∧Ba w' wq.heap.size S q r (F0 s.row rt (Jm s.tx q1 n9) ra))∧An wq w'):=
  A6 fun wq B d hr9 hI=>(tE hr9 hI.ints (Bd.nocap' hI) (by rw[←TC];exact CA) QO rfl).mono fun e w' ⟨S,q,r,h1,h2,h3⟩=>⟨_,h1,⟨S,q,r,rfl,h2⟩,h3⟩
 have HV:=A6 (Au OF (Au mv TC));have YN:(F0 s.row rt (Jm s.tx q1 n9) ra).length≤1000000000:=by omega
 have hWb:n9≤120:=ok.hi;obtain⟨news,EK⟩:∃x,x=F0 s.row rt (Jm s.tx q1 n9) ra:=⟨_,rfl⟩;rw[←EK]at ic YM YN;obtain⟨row,EL⟩:∃x,x=Jm s.tx q1 n9:=⟨_,rfl⟩;rw[←EL]at ic YM OE;have TG:s.tx.length≤4096:=by have:=hl.len;omega
 have YO:Hid (∀wq,By wq v.tr (Pb s.tx)→Calls prog 53 #[.agg #[.pointer v.tr]] wq fun e w'=>∃u,e=.returned u∧(∃A k,u=.slice A s.tx.length k∧Ba w' wq.heap.size A s.tx.length k s.tx)∧An wq w'):=
  A6 fun wq ht=>Hc ht TG
 have GG:=A6 h.ses.dat.here.tr;have dk:=hb.ext (An.drew w);have hvl:n8≤1000000000:=by omega
 clear h hb hl ok kb1 kb2 kb3 kb4 kb5 kb6 kb7 Ip e14 TF TE CA QO TD TC OF ho8 DW YL mv lf qd As ul YJ EK EL TG;go_enter func41,ntmps41
 go_upto_region 0 with fail
 refine J5 (S:=fun w'=>An w w') 20 (by kernel_rfl) (An.drew w) (fun hS=>?_)
 generalize w.drew=cur at*;refine Bg (i:=0) (v:=some p) rfl (by kernel_rfl) (by kernel_rfl) (by kernel_rfl) (by decide) (fun _ _ _ h=>h) (Or.inl ⟨by rfl,by(intro w' ag;go_simp)⟩) (fun hl=>by first|exact hS|exact absurd hl (by decide)) ?_
 try simp only[Ac,Aa,Ab,Ao,A7,Ad,Ae]
 refine Bg (i:=1) (v:=some p) rfl (by kernel_rfl) (by kernel_rfl) (by kernel_rfl) (by decide) (fun _ _ _ h=>h) (Or.inl ⟨by rfl,by(intro w' ag;go_simp)⟩) (fun hl=>by first|exact hS|exact absurd hl (by decide)) ?_
 try simp only[Ac,Aa,Ab,Ao,A7,Ad,Ae]
 refine Bg (i:=2) (v:=some p) rfl (by kernel_rfl) (by kernel_rfl) (by kernel_rfl) (by decide) (fun _ _ _ h=>h) (Or.inl ⟨by rfl,by(intro w' ag;go_simp)⟩) (fun hl=>by first|exact hS|exact absurd hl (by decide)) ?_
 try simp only[Ac,Aa,Ab,Ao,A7,Ad,Ae]
 refine Bg (i:=3) (v:=some p) rfl (by kernel_rfl) (by kernel_rfl) (by kernel_rfl) (by decide) (fun _ _ _ h=>h) (Or.inl ⟨by rfl,by(intro w' ag;go_simp)⟩) (fun hl=>by first|exact hS|exact absurd hl (by decide)) ?_
 try simp only[Ac,Aa,Ab,Ao,A7,Ad,Ae]
 refine Bg (i:=4) (v:=some p) rfl (by kernel_rfl) (by kernel_rfl) (by kernel_rfl) (by decide) (fun _ _ _ h=>h) (Or.inl ⟨by rfl,by(intro w' ag;go_simp)⟩) (fun hl=>by first|exact hS|exact absurd hl (by decide)) ?_
 try simp only[Ac,Aa,Ab,Ao,A7,Ad,Ae]
 refine Bg (i:=7) (v:=some p) rfl (by kernel_rfl) (by kernel_rfl) (by kernel_rfl) (by decide) (fun _ _ _ h=>h) (Or.inl ⟨by rfl,by(intro w' ag;go_simp)⟩) (fun hl=>by first|exact hS|exact absurd hl (by decide)) ?_
 try simp only[Ac,Aa,Ab,Ao,A7,Ad,Ae]
 refine Bg (i:=8) (v:=some p) rfl (by kernel_rfl) (by kernel_rfl) (by kernel_rfl) (by decide) (fun _ _ _ h=>h) (Or.inl ⟨by rfl,by(intro w' ag;go_simp)⟩) (fun hl=>by first|exact hS|exact absurd hl (by decide)) ?_
 try simp only[Ac,Aa,Ab,Ao,A7,Ad,Ae]
 refine Bg (i:=9) (v:=some p) rfl (by kernel_rfl) (by kernel_rfl) (by kernel_rfl) (by decide) (fun _ _ _ h=>h) (Or.inl ⟨by rfl,by(intro w' ag;go_simp)⟩) (fun hl=>by first|exact hS|exact absurd hl (by decide)) ?_
 try simp only[Ac,Aa,Ab,Ao,A7,Ad,Ae]
 refine Bg (i:=10) (v:=(.pointer (some ⟨p,1,none⟩))) rfl (by kernel_rfl) (by kernel_rfl) (by kernel_rfl) (by decide) (fun _ _ _ h=>h) (Or.inl ⟨by rfl,by(intro w' ag;go_simp)⟩) (fun hl=>by first|exact hS|exact absurd hl (by decide)) ?_
 try simp only[Ac,Aa,Ab,Ao,A7,Ad,Ae]
 refine G4 (i:=11) (v:=s.at_) rfl (by kernel_rfl) (by kernel_rfl) (by kernel_rfl) (by kernel_rfl) (by decide) (by kernel_rfl) (fun _ _ _ h=>h) (Or.inl ⟨by rfl,by(intro w' ag;have e0:w'.cell? ⟨p,1,none⟩=some (.int .i64 s.at_):=((H.out.ext ag).ses.blk).cell 1;go_simp)⟩) hS ?_
 try simp only[Ac,Aa,Ab,Ao,A7,Ad,Ae]
 refine Bg (i:=12) (v:=some p) rfl (by kernel_rfl) (by kernel_rfl) (by kernel_rfl) (by decide) (fun _ _ _ h=>h) (Or.inl ⟨by rfl,by(intro w' ag;go_simp)⟩) (fun hl=>by first|exact hS|exact absurd hl (by decide)) ?_
 try simp only[Ac,Aa,Ab,Ao,A7,Ad,Ae]
 refine Bg (i:=13) (v:=some p) rfl (by kernel_rfl) (by kernel_rfl) (by kernel_rfl) (by decide) (fun _ _ _ h=>h) (Or.inl ⟨by rfl,by(intro w' ag;go_simp)⟩) (fun hl=>by first|exact hS|exact absurd hl (by decide)) ?_
 try simp only[Ac,Aa,Ab,Ao,A7,Ad,Ae]
 refine Bg (i:=14) (v:=(.pointer (some ⟨p,51,none⟩))) rfl (by kernel_rfl) (by kernel_rfl) (by kernel_rfl) (by decide) (fun _ _ _ h=>h) (Or.inl ⟨by rfl,by(intro w' ag;go_simp)⟩) (fun hl=>by first|exact hS|exact absurd hl (by decide)) ?_
 try simp only[Ac,Aa,Ab,Ao,A7,Ad,Ae]
 refine G4 (i:=15) (v:=s.off) rfl (by kernel_rfl) (by kernel_rfl) (by kernel_rfl) (by kernel_rfl) (by decide) (by kernel_rfl) (fun _ _ _ h=>h) (Or.inl ⟨by rfl,by(intro w' ag;have e0:w'.cell? ⟨p,51,none⟩=some (.int .i64 s.off):=((H.out.ext ag).ses.blk).cell 51;go_simp)⟩) hS ?_
 try simp only[Ac,Aa,Ab,Ao,A7,Ad,Ae]
 refine Bg (i:=16) (v:=some p) rfl (by kernel_rfl) (by kernel_rfl) (by kernel_rfl) (by decide) (fun _ _ _ h=>h) (Or.inl ⟨by rfl,by(intro w' ag;go_simp)⟩) (fun hl=>by first|exact hS|exact absurd hl (by decide)) ?_
 try simp only[Ac,Aa,Ab,Ao,A7,Ad,Ae]
 refine Bg (i:=17) (v:=some p) rfl (by kernel_rfl) (by kernel_rfl) (by kernel_rfl) (by decide) (fun _ _ _ h=>h) (Or.inl ⟨by rfl,by(intro w' ag;go_simp)⟩) (fun hl=>by first|exact hS|exact absurd hl (by decide)) ?_
 try simp only[Ac,Aa,Ab,Ao,A7,Ad,Ae]
 refine Bg (i:=18) (v:=(.pointer (some ⟨p,52,none⟩))) rfl (by kernel_rfl) (by kernel_rfl) (by kernel_rfl) (by decide) (fun _ _ _ h=>h) (Or.inl ⟨by rfl,by(intro w' ag;go_simp)⟩) (fun hl=>by first|exact hS|exact absurd hl (by decide)) ?_
 try simp only[Ac,Aa,Ab,Ao,A7,Ad,Ae]
 refine G4 (i:=19) (v:=Wi) rfl (by kernel_rfl) (by kernel_rfl) (by kernel_rfl) (by kernel_rfl) (by decide) (by kernel_rfl) (fun _ _ _ h=>h) (Or.inl ⟨by rfl,by(intro w' ag;have e0:=H14.out w' ag;go_simp)⟩) hS ?_
 try simp only[Ac,Aa,Ab,Ao,A7,Ad,Ae]
 have d0:cur.cell? ⟨p,0,none⟩=some (.pointer v.tr):=dk.cell 0;refine Jb (i:=5) (by decide +kernel) rfl (fun K hK=>?_)
 go_simp
 refine hK.out _ _ hS (fun _=>?_)
 clear hK K d0
 try simp only[Ac,Aa,Ab,Ao,A7,Ad,Ae]
 refine Jb (i:=6) (by decide +kernel) rfl (fun K hK=>?_)
 refine Cl rfl 62 #[.agg #[.pointer v.tr]] rfl (by kernel_rfl) (fun u w'=>u=.int .i64 s.tx.length) (ru.out _ hS) ?_
 rintro u w2 rfl hE;refine hK.out _ _ (hS.trans hE) (fun ao=>?_)
 replace hS:=ao;clear hK K hE ao dk
 try simp only[Ac,Aa,Ab,Ao,A7,Ad,Ae]
 refine G6 (i:=20) (by decide +kernel) rfl (by decide +kernel) (fun K hK=>?_)
 refine Cl rfl 67 #[.int .i64 s.tx.length,.int .i64 s.at_,.int .i64 s.off,.int .i64 Wi] rfl (by kernel_rfl) (fun u w'=>u=.tuple #[q1,(0:Int)]) (YK.out _) ?_
 rintro u w3 rfl hE;have NG:=hS.trans hE;refine hK.out _ _ ?_
 clear hK K hS hE
 try simp only[Ac,Aa,Ab,Ao,A7,Ad,Ae]
 refine Bg (i:=21) (v:=(.tuple #[q1,(0:Int)])) rfl (by kernel_rfl) (by kernel_rfl) (by kernel_rfl) (by decide) (fun _ _ _ h=>h) (Or.inl ⟨by rfl,by(intro w' ag;go_simp)⟩) (fun hl=>by first|exact hS|exact absurd hl (by decide)) ?_
 try simp only[Ac,Aa,Ab,Ao,A7,Ad,Ae]
 refine Bg (i:=22) (v:=q1) rfl (by kernel_rfl) (by kernel_rfl) (by kernel_rfl) (by decide) (fun _ _ _ h=>h) (Or.inl ⟨by rfl,by(intro w' ag;go_simp)⟩) (fun hl=>by first|exact hS|exact absurd hl (by decide)) ?_
 try simp only[Ac,Aa,Ab,Ao,A7,Ad,Ae]
 refine Bg (i:=23) (v:=(0:Int)) rfl (by kernel_rfl) (by kernel_rfl) (by kernel_rfl) (by decide) (fun _ _ _ h=>h) (Or.inl ⟨by rfl,by(intro w' ag;go_simp)⟩) (fun hl=>by first|exact hS|exact absurd hl (by decide)) ?_
 try simp only[Ac,Aa,Ab,Ao,A7,Ad,Ae]
 refine Bg (i:=24) (v:=some p) rfl (by kernel_rfl) (by kernel_rfl) (by kernel_rfl) (by decide) (fun _ _ _ h=>h) (Or.inl ⟨by rfl,by(intro w' ag;go_simp)⟩) (fun hl=>by first|exact hS|exact absurd hl (by decide)) ?_
 try simp only[Ac,Aa,Ab,Ao,A7,Ad,Ae]
 refine Bg (i:=25) (v:=(.pointer (some ⟨p,51,none⟩))) rfl (by kernel_rfl) (by kernel_rfl) (by kernel_rfl) (by decide) (fun _ _ _ h=>h) (Or.inl ⟨by rfl,by(intro w' ag;go_simp)⟩) (fun hl=>by first|exact hS|exact absurd hl (by decide)) ?_
 try simp only[Ac,Aa,Ab,Ao,A7,Ad,Ae]
 have ap:=H.out.ses.blk.ext NG;have g51:w3.cell? ⟨p,51,none⟩=some (.int .i64 s.off):=ap.cell 51;have f51:=ap.frozen 51;refine G6 (i:=26) (by decide +kernel) rfl (by decide +kernel) (fun K hK=>?_)
 go_simp
 refine hK.out _ _ ?_
 have c4:=(E5.start NG ap).set 51 (.int .i64 q1);have YC:Hid (By (w3.setCell ⟨p,51,none⟩ q1) v.tr (Pb s.tx)):=A6 (By.alt c4.alt GG.out);have su:=A6 (H.out.chain c4 v { s with off:=q1 } (by kernel_rfl) (fun w'' _ ht hd=>⟨hd.1,hd.2,hd.3,hd.4,hd.5,hd.6,hd.7,hd.8⟩))
 clear hK K g51 f51 ap NG c4;generalize w3.setCell ⟨p,51,none⟩ q1=w4 at*;refine Mj (by kernel_rfl) ?_ _
 go_upto_region 1 with fail
 have ot:Hid (∀wq,An w4 wq→_):=A6 (fun wq he=>su.out.1.ses.blk.ext he)
 have OG:Hid (∀wq,An w4 wq→wq.cell? ⟨p,52,none⟩=some (.int .i64 Wi)):=A6 fun wq he=>((su.out.1.ses.blk.ext he).cell 52).trans ((H.out.ses.blk.cell 52).symm.trans (H14.out w (An.refl w)))
 have hS4:An w4 w4.drew:=An.drew w4;refine wp_region_held_drew (S:=fun w'=>An w4 w') (by kernel_rfl) hS4 (fun hS=>?_)
 clear hS4;refine Bf (i:=0) (v:=some p) rfl hS ?_
 refine Bf (i:=1) (v:=some p) rfl hS ?_
 refine Bf (i:=2) (v:=some p) rfl hS ?_
 refine Bf (i:=3) (v:=some p) rfl hS ?_
 refine Ga (i:=4) (v:=(.agg #[.pointer v.tr])) rfl (fun w' ag=>by have e0:w'.cell? ⟨p,0,none⟩=some (.pointer v.tr):=(ot.out _ ag).cell 0;go_simp) hS ?_
 refine Bf (i:=6) (v:=some p) rfl hS ?_
 refine Bf (i:=7) (v:=some p) rfl hS ?_
 refine Bf (i:=8) (v:=some p) rfl hS ?_
 refine Bf (i:=9) (v:=(.pointer (some ⟨p,1,none⟩))) rfl hS ?_
 refine Ga (i:=10) (v:=s.at_) rfl (fun w' ag=>by have e0:w'.cell? ⟨p,1,none⟩=some (.int .i64 s.at_):=(ot.out _ ag).cell 1;go_simp) hS ?_
 refine Bf (i:=11) (v:=some p) rfl hS ?_
 refine Bf (i:=12) (v:=some p) rfl hS ?_
 refine Bf (i:=13) (v:=(.pointer (some ⟨p,51,none⟩))) rfl hS ?_
 refine Ga (i:=14) (v:=q1) rfl (fun w' ag=>by have e0:w'.cell? ⟨p,51,none⟩=some (.int .i64 q1):=(ot.out _ ag).cell 51;go_simp) hS ?_
 refine Bf (i:=15) (v:=some p) rfl hS ?_
 refine Bf (i:=16) (v:=some p) rfl hS ?_
 refine Bf (i:=17) (v:=(.pointer (some ⟨p,52,none⟩))) rfl hS ?_
 refine Ga (i:=18) (v:=Wi) rfl (fun w' ag=>by have e0:=OG.out w' ag;go_simp) hS ?_
 generalize w4.drew=cur4 at*
 iterate 3
  all_goals (first|refine wpAnyH_ready (rs:=[5,23]) (by decide +kernel) (by simp) (Ai rfl (fun K hK=>?_) (Ai rfl (fun K hK=>?_) Am))|refine wpAnyH_ready (rs:=[19,23]) (by decide +kernel) (by simp) (Ai rfl (fun K hK=>?_) (Ai rfl (fun K hK=>?_) Am))|refine wpAnyH_ready (rs:=[5]) (by decide +kernel) (by simp) (Ai rfl (fun K hK=>?_) Am)|refine wpAnyH_ready (rs:=[19]) (by decide +kernel) (by simp) (Ai rfl (fun K hK=>?_) Am)|refine wpAnyH_ready (rs:=[23]) (by decide +kernel) (by simp) (Ai rfl (fun K hK=>?_) Am))
  all_goals (first
   |(
    refine Cl rfl 68 #[.slice A s.tx.length k,.int .i64 s.at_,.int .i64 q1,.int .i64 Wi] rfl (by kernel_rfl) (fun u w'=>∃B d,u=.tuple #[.agg #[.slice B n9 d,ra],(0:Int)]∧Ba w' w4.heap.size B n9 d row) ((OE.out _ A s.tx.length k i9.ints).mono fun e w' ⟨u,h1,⟨B,d,h2,h3⟩,h4⟩=>⟨u,h1,⟨B,d,h2,h3.lower hS.hsize⟩,h4⟩) ?_
    rintro u w5 ⟨B,d,rfl,hR⟩ hE;refine hK.out _ _ (hS.trans hE) (fun ao=>?_)
    clear hK K i9
    try replace cg:=Aq.ext cg hE
    replace hS:=ao;clear ao hE
    try simp only[Ac,Aa,Ab,Ao,A7,Ad,Ae]
    refine Bf (i:=20) (v:=.tuple #[.agg #[.slice B n9 d,ra],(0:Int)]) rfl hS ?_
    refine Bf (i:=21) (v:=.agg #[.slice B n9 d,ra]) rfl hS ?_
    refine wpAnyH_take (i:=22) (v:=.int .i64 0) rfl (by kernel_rfl) (by kernel_rfl) (by kernel_rfl) (fun _ _ _ h=>h) (Or.inl ⟨by rfl,by(intro w' ag;go_simp)⟩) hS ?_
    try simp only[Ac,Aa,Ab,Ao,A7,Ad,Ae])
   |(
    refine Cl rfl 53 #[.agg #[.pointer v.tr]] rfl (by kernel_rfl) (fun u w'=>∃A k,u=.slice A s.tx.length k∧Ba w' (World.heap _).size A s.tx.length k s.tx) (YO.out _ (By.ext hS YC.out)) ?_
    rintro u w5 ⟨A,k,rfl,i9⟩ hE;refine hK.out _ _ (hS.trans hE) (fun ao=>?_)
    clear hK K;replace i9:Ba _ 0 A s.tx.length k s.tx:=Bd.lower i9 (B8 _)
    try replace cg:=Aq.ext cg hE
    replace hS:=ao;clear ao hE
    try simp only[Ac,Aa,Ab,Ao,A7,Ad,Ae])
   |(
    go_simp
    refine hK.out _ _ (hS.to_alloc (.cells #[(),(0:Int)] 41)) (fun ao=>?_)
    clear hK K;have hE:=Ms ao
    try replace i9:=Ba.ext i9 hE
    try replace hR:=Ba.ext hR hE
    obtain⟨g5,sm,cg⟩:=J2j ao;have mu:=hS.hsize;rw[←sm]at mu ⊢;clear sm;replace hS:=ao;clear ao hE;generalize World.alloc _ _=nx at*
    try simp only[Ac,Aa,Ab,Ao,A7,Ad,Ae]))
 all_goals
  have e40:=cg.cell 0;have e41:=cg.cell 1;have f40:=cg.frozen 0;have f41:=cg.frozen 1;simp only[List.getElem?_toArray,List.getElem?_cons_zero,List.getElem?_cons_succ]at e40 e41;refine wpAnyH_ready (rs:=[24]) (by decide +kernel) (by simp) (Ai rfl (fun K hK=>?_) Am)
  go_simp
  have wi:=Jw hR cg (by decide) (.slice B n9 d) (.int .i64 (ra:Int))
  have ly:=Ee cg (.slice B n9 d) (.int .i64 (ra:Int));have ao:=Ed hS mu (.slice B n9 d) (.int .i64 (ra:Int));clear e40 e41 f40 f41 cg hR hS;generalize Bh (Bh _ _ _) _ _=w5 at*;refine hK.out _ _ ao (fun hS=>?_)
  clear hK K ao
  try simp only[Ac,Aa,Ab,Ao,A7,Ad,Ae]
  refine wpAnyH_ready (rs:=[25]) (by decide +kernel) (by simp) (Ai rfl (fun K hK=>?_) Am)
  go_simp
  refine hK.out _ _ hS (fun _=>?_)
  clear hK K;refine wpAnyH_done (by kernel_rfl) ?_ _
  go_upto_region 2 with fail
  have TH:An w4 w5.drew:=hS.trans (An.drew w5);have mp:Hid (∀wq,An w5.drew wq→Aq wq g5 41 #[.slice B n9 d,.int .i64 (ra:Int)]):=A6 fun wq he=>(ly.ext (An.drew w5)).ext he
  have YP:Ba w5.drew w4.heap.size B n9 d row:=Ba.ext wi (An.drew w5);refine wp_region_held_drew (S:=fun w'=>An w5.drew w') (by kernel_rfl) (An.refl _) (fun ao=>?_)
  replace hS:=ao;clear wi ly ao;generalize w5.drew=cur5 at*;refine Bf (i:=0) (v:=some p) rfl hS ?_
  refine Bf (i:=1) (v:=some p) rfl hS ?_
  refine Bf (i:=2) (v:=(.pointer (some ⟨p,53,none⟩))) rfl hS ?_
  refine Ga (i:=3) (v:=(.agg #[v.row,s.rat])) rfl (fun w' ag=>by exact Dy 41 (.tmp 58) rfl p 53 2 rfl (ot.out _ (TH.trans ag)) (by kernel_rfl) underlying41 rfl (by kernel_rfl)) hS ?_
  rw[HV.out.2.1,HV.out.2.2];refine Ga (i:=4) (v:=(.agg #[.slice B n9 d,ra])) rfl (fun w' ag=>by exact Dy 41 (.tmp 2) rfl g5 0 2 rfl (mp.out _ ag) (by kernel_rfl) underlying41 rfl (by kernel_rfl)) hS ?_
  have hI9:Bj cur5 A9 n9 k9 s.row:=by
   obtain⟨A',n',k',e',o6,_⟩:=(su.out.1.ext TH).ses.dat.here.row;have e':v.row=.slice A' n' k':=e';rw[HV.out.2.1]at e';injection e' with e1 e2 e3;subst e1 e2 e3;exact o6.ints
  refine wpAnyH_ready (rs:=[5]) (by decide +kernel) (by simp) (Ai rfl (fun K hK=>?_) Am)
  refine Cl rfl 69 #[.agg #[.slice A9 n9 k9,rt],.agg #[.slice B n9 d,ra]] rfl (by kernel_rfl) (fun u w'=>∃S q r,u=.tuple #[.slice S q r,(0:Int)]∧Ba w' cur5.heap.size S q r news) (YM.out _ B d hI9 (Bd.lower YP (B8 _))) ?_
  rintro u w6 ⟨S,q,r,rfl,YQ⟩ hE;refine hK.out _ _ hE (fun ao=>?_)
  replace hS:=ao;clear hK K ao hI9;have Iq:=TH.trans hE;have hR6:=Ba.ext YP hE;have eo:=mp.out _ hE
  try simp only[Ac,Aa,Ab,Ao,A7,Ad,Ae]
  refine Bf (i:=6) (v:=(.tuple #[.slice S q r,(0:Int)])) rfl hS ?_
  refine Bf (i:=7) (v:=(.slice S q r)) rfl hS ?_
  refine Bf (i:=8) (v:=(0:Int)) rfl hS ?_
  refine Bf (i:=9) (v:=(.slice S q r)) rfl hS ?_
  refine Bf (i:=10) (v:=(0:Int)) rfl hS ?_
  refine wpAnyH_done (by kernel_rfl) ?_ _
  have OH:=ot.out _ Iq;have g57:w6.cell? ⟨p,57,none⟩=some (.slice A8 n8 c8):=(OH.cell 57).trans (congrArg some HV.out.1);have EM:Ba w6 0 A8 n8 c8 s.vis:=by
   obtain⟨A',n',k',e',o6,_⟩:=(su.out.1.ext Iq).vis;have e':v.vis=.slice A' n' k':=e';rw[HV.out.1]at e';injection e' with e1 e2 e3;subst e1 e2 e3;exact o6
  have dr:news.length=q:=YQ.ints.len;have H6:=A6 (Au Iq (Au hR6 (Au eo mu)));have HB5b:=mp;have m8:=X8 w6;clear OH YP hS TH hE mp OG hR6 eo;go_wp2_with (at_builtin;refine Eh rfl (.tmp 68) (.tmp 69) 25 rfl (yA w6) 0 3 i0 (.int .i64 0) 1 8 underlying25 hi bm bz az rfl (by decide) A8 n8 c8 _ rfl EM S q r _ rfl YQ.ints (ints_oneCell _ _) (by unfold maxLen;omega) (by omega) m8 (Aj _) (B8 _) ?_)
  intro A2 c2 w7 db av cf hx7;obtain⟨KG,ia,Ir,EN⟩:=tG su.out.1 H6.out.1 HV.out.1 H6.out.2.1 (Aj _) hWb H6.out.2.2.1 H6.out.2.2.2 db av cf;have g57:w7.cell? ⟨p,57,none⟩=some v.vis:=KG.cell 57;have f57:=KG.frozen 57;have HD:=A6 EN;clear db av cf hx7 m8 EM YQ KG EN dr;go_upto_region 4 with fail
  clear g57 f57;generalize w7.setCell ⟨p,57,none⟩ (.slice A2 (n8+q) c2)=w8 at*;have e0:w8.cell? ⟨g5,0,none⟩=some (.slice B n9 d):=ia.cell 0;have e1:w8.cell? ⟨g5,1,none⟩=some (.int .i64 (ra:Int)):=ia.cell 1;have d53:w8.cell? ⟨p,53,none⟩=some v.row:=Ir.cell 53;have d54:w8.cell? ⟨p,54,none⟩=some (.int .i64 s.rat):=Ir.cell 54;have f53:=Ir.frozen 53;have f54:=Ir.frozen 54;clear ia Ir;go_wp2_with fail
  go_end0
  refine⟨rfl,?_⟩
  rw[ic.out];exact C6.trans su.out.2 HD.out
end
