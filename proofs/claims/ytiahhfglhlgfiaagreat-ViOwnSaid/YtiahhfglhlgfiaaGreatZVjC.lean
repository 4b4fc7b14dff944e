/-
  Part ZVjC.
-/
import Derived.Test.YtiahhfglhlgfiaaGreatZPaiS
import Derived.Test.YtiahhfglhlgfiaaGreatZViP
set_option maxRecDepth 100000
set_option maxHeartbeats 16000000
set_option linter.unusedVariables false
set_option linter.unusedSimpArgs false
namespace Go.Proofs.YtiahhfglhlgfiaaGreat
open Go.RowKit
open Act renaming put→Am
open AllReadyH renaming cons→Ah,nil→Ak
open _root_.And renaming intro→Be
open _root_.List renaming getElem_cons_succ→Aa,getElem_cons_zero→A7,getElem_toArray→Ab,setIfInBounds_toArray→A6,set_cons_succ→Ad,set_cons_zero→Ac
open _root_.Nat renaming le_refl→Ai,zero_le→Aw
open Value renaming int→Aq,slice→Aj
open World renaming setCell→Bb
section
variable {col:Nat→Nat}{s:PS}
noncomputable def V8 (s:PS):PS:=
 { s with
  off:=Ph s.at_ s.off s.width,row:=Hw s.tx (Ph s.at_ s.off s.width) s.width.toNat,rat:=s.at_-Ph s.at_ s.off s.width,
  vis:=s.vis++Ec s.row s.rat.toNat (Hw s.tx (Ph s.at_ s.off s.width) s.width.toNat) (s.at_-Ph s.at_ s.off s.width).toNat }
structure Wv (W:Nat)(s:PS):Prop where
 width:s.width=W
 lo:2≤W
 hi:W≤120
 off:0≤s.off∧s.off≤200
 row:Rs s.row W s.rat
 len:s.row.length=W
theorem aS {at_ off:Int}{n W:Nat}(h1:0≤at_)(h2:at_≤n)(h3:n≤200)(h4:0≤off∧off≤200)(hw:2≤W)(hW:W≤120):
 ¬Uv n at_ off W∧¬Uv n at_ (Ph at_ off W) W∧Ph at_ (Ph at_ off W) W=Ph at_ off W∧0≤at_-Ph at_ off W∧at_-Ph at_ off W≤W∧0≤Ph at_ off W∧Ph at_ off W≤200:=by
 unfold Uv Ph;refine⟨by omega,?_,?_,?_,?_,?_,?_⟩<;>(repeat' split)<;>omega
theorem eM (l:List Int){k r:Int}{W:Nat}(hw:2≤W)(hW:W≤120)(h1:0≤r)(h2:r≤W):Rs (Hw l k W) W r:=
 ⟨hw,hW,h1,h2,fun i hi=>by rw[qG l k hi];exact aD l k i⟩
theorem Wv.show {W:Nat}(h:Wv W s)(hl:pL s):Wv W (V8 s):=by
 obtain⟨h1,h2,h3,h4,h5,h6⟩:=h;obtain⟨k1,k2,k3,k4,k5,k6,k7⟩:=aS hl.lo hl.hi hl.len h4 h2 h3;refine⟨h1,h2,h3,?_,?_,?_⟩
 ·show 0≤Ph s.at_ s.off s.width∧Ph s.at_ s.off s.width≤200
  rw[h1];exact⟨k6,k7⟩
 ·show Rs (Hw s.tx (Ph s.at_ s.off s.width) s.width.toNat) W (s.at_-Ph s.at_ s.off s.width)
  rw[h1];exact eM _ h2 h3 k4 k5
 ·show(Hw s.tx (Ph s.at_ s.off s.width) s.width.toNat).length=W
  rw[Z1,h1];rfl
theorem Db.see {w w':World}{p n c m c2:Nat}{v:SV}{A A2:Option Addr}{news:List Int}(h:Db w col p v s)(hv:v.vis=.slice A n c)
 (hO:Ay w' 0 3 1 A2 (n+m) c2 (s.vis.map (Aq .i64)++news.map (Aq .i64))) (hgr:w.grownBy w' (Aj A n c).ownBlock)
 (hor:(Aj A2 (n+m) c2).ownBlock=(Aj A n c).ownBlock∨(Aj A2 (n+m) c2).ownBlock=some w.heap.size):
 ∃col',Db (w'.setCell ⟨p,57,none⟩ (.slice A2 (n+m) c2)) col' p { v with vis:=.slice A2 (n+m) c2 } { s with vis:=s.vis++news }∧Kp w col (w'.setCell ⟨p,57,none⟩ (.slice A2 (n+m) c2)) col':=by
 obtain⟨A',n',c',hv',ho,hg⟩:=h.vis;rw[hv]at hv';injection hv' with e1 e2 e3;subst e1 e2 e3;rw[hv]at hg;have h7:=h.ses.own;have hnp:(Aj A n c).ownBlock≠some p:=fun e=>by have:=hg p e;omega
 have hlt:=h.ses.blk.lt;have hnp2:(Aj A2 (n+m) c2).ownBlock≠some p:=fun e=>by
  rcases hor with e'|e'
  ·exact hnp (e'.symm.trans e)
  ·rw[e']at e;injection e with e;omega
 have hb3:=h.ses.blk.grown hgr fun e=>hnp e.symm
 have hb4:=hb3.set_ 57 (.slice A2 (n+m) c2);have ha3:=Fp.of_own ho hgr (by decide)
 have ha4:=(ha3.mono (M':=fun k=>(Aj A n c).ownBlock=some k∨k=p) fun k _ e=>.inl e).trans (Fp.set hb3 (by decide) 57 (.slice A2 (n+m) c2)) fun g _ e=>.inr e
 have hO4:Ay (w'.setCell ⟨p,57,none⟩ (.slice A2 (n+m) c2)) 0 3 1 A2 (n+m) c2 (s.vis.map (Aq .i64)++news.map (Aq .i64)):=Ay.same hO fun g hg=>Cd fun e=>hnp2 (by rw[hg];exact congrArg some e)
 have hold:∀g,g<w.heap.size→(if(Aj A2 (n+m) c2).ownBlock=some g then 6 else col g)=col g:=fun g hg'=>by
  split
  ·rename_i e
   rcases hor with e'|e'
   ·exact(hg g (e'.symm.trans e)).symm
   ·rw[e']at e;injection e with e;omega
  ·rfl
 have hm:∀d,d≠6→d≠7→∀g,g<w.heap.size→((Aj A n c).ownBlock=some g∨g=p)→col g≠d:=fun d h1 h2 g _ e=>by
  exact I89
 refine⟨fun g=>if(Aj A2 (n+m) c2).ownBlock=some g then 6 else col g,⟨⟨hb4,(if_neg hnp2).trans h7,(h.ses.dat.turn ha4 (hm 1 (by decide) (by decide)) hold).imp fun _ h=>⟨h.1,h.2,h.3,h.4,h.5,h.6,h.7,h.8⟩,h.ses.now.turn ha4 (fun g h1 h2=>⟨hm 2 (by decide) (by decide) g h1 h2,hm 3 (by decide) (by decide) g h1 h2⟩) hold,fun g hg'=>?_⟩,h.told.turn ha4 (fun g h1 h2=>⟨hm 4 (by decide) (by decide) g h1 h2,hm 5 (by decide) (by decide) g h1 h2⟩) hold,?_⟩,ha4.mono fun g h1 h2=>?_,fun g h1 h2=>by rw[←hold g h1];exact h2,fun g h1 e=>(hold g h1).trans e⟩
 ·by_cases e:(Aj A2 (n+m) c2).ownBlock=some g
  ·exact(Ay.blk hO4 g e).2
  ·have hg':(if(Aj A2 (n+m) c2).ownBlock=some g then 6 else col g)≠0:=hg'
   exact I75
 ·exact⟨A2,n+m,c2,rfl,by unfold Av;rw[List.map_append];exact hO4,fun g e=>if_pos e⟩
 ·rcases h2 with e|rfl
  ·rw[hg g e];decide
  ·rw[h7];decide
theorem lV {w4 w6 w7:World}{p n c m c2 W g5 b d:Nat}{v:SV}{A A2 B:Option Addr}{news row:List Int}{ra:Nat}(h:Db w4 col p v s)(he:Al w4 w6)(hv:v.vis=.slice A n c)
 (hrow:Av w6 b B W d row) (hbb:w4.heap.size≤b) (hW:W≤120) (hb5:An w6 g5 43 #[.slice B W d,.int .i64 (ra:Int)]) (hz5:w4.heap.size≤g5)
 (hO:Ay w7 0 3 1 A2 (n+m) c2 (s.vis.map (Aq .i64)++news.map (Aq .i64))) (hgr:w6.grownBy w7 (Aj A n c).ownBlock)
 (hor:(Aj A2 (n+m) c2).ownBlock=(Aj A n c).ownBlock∨(Aj A2 (n+m) c2).ownBlock=some w6.heap.size):
 An w7 p 65 (Ll v s)∧An (w7.setCell ⟨p,57,none⟩ (.slice A2 (n+m) c2)) g5 43 #[.slice B W d,.int .i64 (ra:Int)]∧
 An (w7.setCell ⟨p,57,none⟩ (.slice A2 (n+m) c2)) p 65 (Ll { v with vis:=.slice A2 (n+m) c2 } s)∧
 Br p w4 col { s with vis:=s.vis++news,row:=row,rat:=(ra:Int) } (((w7.setCell ⟨p,57,none⟩ (.slice A2 (n+m) c2)).setCell ⟨p,53,none⟩ (.slice B W d)).setCell ⟨p,54,none⟩ (.int .i64 (ra:Int))):=by
 obtain⟨hm6,ht6⟩:=h.grow he 1;obtain⟨col8,hm8,ht8⟩:=hm6.see hv hO hgr hor;have hreg:Bg w6 b (.slice B W d) row:=⟨B,W,d,rfl,hrow,Ay.nocap' hrow,by omega⟩
 have hD:=(Ht.reg (F:=fun k=>Go.Proofs.YtiahhfglhlgfiaaGreat.grow col w4.heap.size w6.heap.size 1 k=1) hreg fun k h1 h2=>Hn (Nat.le_trans hbb h1) h2).trn ht8
 have c:=((Dh.start (Al.refl _) hm8.ses.blk).set 53 (.slice B W d)).set 54 (.int .i64 (ra:Int));have hr:=hm8.chainD hD c { { v with vis:=.slice A2 (n+m) c2 }with row:=.slice B W d } { { s with vis:=s.vis++news }with row:=row,rat:=(ra:Int) } (by kernel_rfl) fun w'' htr ho' hd'=>⟨hd'.1,hd'.2,hd'.3,hd'.4,hd'.5,hd'.6,hd'.7,ho'⟩
 refine⟨hm6.ses.blk.grown hgr fun e=>?_,ht8.1.blk hb5 fun hn=>hn.2 (Hn hz5 hb5.lt),hm8.ses.blk,_,_,hr.1,ht6.trans (ht8.trans hr.2)⟩
 obtain⟨A',n',c',hv',ho,hg⟩:=hm6.vis;rw[hv]at hg;have h1:=hg p e.symm;have h7:=hm6.ses.own;omega
theorem Vk {a b:List Int}{st at_ n:Nat}(ha:a.length=n)(hb:Rs b n (at_:Int))(hl:b.length=n)(hst:st≤n):(Ec a st b at_).length≤1000:=by
 obtain⟨_,h1,_,h2,h3⟩:=hb;have h:=(gD (a:=a) (b:=b) (st:=st) (at_:=at_) (ha.trans hl.symm) (fun k hk=>h3 k (by omega)) (by omega) (by omega)).2.1
 have h4:=(Qc b b.length).1;have h5:Jn (El b b.length) at_≤300:=by unfold Jn;split<;>omega
 omega
theorem Xk {r:Int}(h:0≤r):((r.toNat:Nat):Int)=r:=Int.toNat_of_nonneg h
theorem lT {w:World}{p W:Nat}{v:SV}(h:Db w col p v s)(hl:pL s)(ok:Wv W s)(hvis:s.vis.length≤1000000000):
 Calls Tryz.prog 14 #[.pointer (some ⟨p,0,none⟩)] w fun e w'=>e=.returned (.tuple #[])∧Br p w col (V8 s) w':=by
 obtain⟨i0,hi,hz0,hz1,hz2⟩:=info_parts Bz;obtain⟨kb1,kb2,kb3,kb4,kb5,kb6,kb7⟩:=aS hl.lo hl.hi hl.len ok.off ok.lo ok.hi;have hb:=h.ses.blk;have hwid:=ok.width;have hrok:=ok.row;obtain⟨rt,hrt⟩:∃r:Nat,s.rat=(r:Int):=⟨s.rat.toNat,(Xk hrok.2.2.1).symm⟩;obtain⟨ra,hra⟩:∃r:Nat,s.at_-Ph s.at_ s.off W=(r:Int):=⟨_,(Xk kb4).symm⟩;obtain⟨Wi,hWi⟩:∃x:Int,x=(W:Int):=⟨_,rfl⟩;obtain⟨q1,hK0⟩:∃x,x=Ph s.at_ s.off W:=⟨_,rfl⟩;rw[←hK0]at kb2 kb3 kb4 kb5 hra;have hrn:Rs (Hw s.tx q1 W) W (ra:Int):=eM _ ok.lo ok.hi (by omega) (by omega)
 have HFin:Hid (V8 s={ { s with off:=q1 }with vis:=s.vis++Ec s.row rt (Hw s.tx q1 W) ra,row:=Hw s.tx q1 W,rat:=(ra:Int) }):=A4 (by
  unfold V8;rw[hwid,←hK0,hrt,hra]
  rfl)
 have HLen:Hid (∀wq,Al w wq→Calls Tryz.prog 30 #[.agg #[.pointer v.tr]] wq fun e w'=>∃u,e=.returned u∧u=.int .i64 s.tx.length∧Al wq w'):=
  A4 fun wq he=>(Xd (h.ext he).ses.dat.here.tr).mono fun e w' ⟨h1,h2⟩=>⟨_,h1,by rw[(Tp (by have:=hl.len;omega)).2],h2⟩
 have HScr:Hid (∀wq,Calls Tryz.prog 35 #[.int .i64 s.tx.length,.int .i64 s.at_,.int .i64 s.off,.int .i64 Wi] wq fun e w'=>∃u,e=.returned u∧u=.tuple #[.int .i64 q1,.int .i64 0]∧Al wq w'):=
  A4 fun wq=>by rw[hWi];exact(Rx kb1).mono fun e w' ⟨h1,h2⟩=>⟨_,h1,by rw[hK0],h2▸Al.refl _⟩
 have e14:∀wq,Al w wq→wq.cell? ⟨p,52,none⟩=some (.int .i64 Wi):=fun wq he=>((hb.ext he).cell 52).trans (by rw[hWi,←hwid];rfl)
 have H14:=A4 e14;have H:=A4 h;have HROW:Hid (∀wq A n c,Bi wq A n c s.tx→Calls Tryz.prog 36 #[.slice A n c,.int .i64 s.at_,.int .i64 q1,.int .i64 Wi] wq fun e w'=>∃u,e=.returned u∧(∃B d,u=.tuple #[.agg #[.slice B W d,.int .i64 (ra:Int)],.int .i64 0]∧Av w' wq.heap.size B W d (Hw s.tx q1 W))∧Al wq w'):=
  A4 fun wq A n c hI=>by
   rw[hWi];refine(uN hI (by rw[←hI.len];exact kb2) kb3).mono fun e w' ⟨B,d,h1,h2,h3⟩=>⟨_,h1,⟨B,d,by rw[hra],h2⟩,h3⟩
 obtain⟨A8,n8,c8,hv8,ho8,hg8⟩:=h.vis;have hn8:=ho8.ints.len;obtain⟨A9,n9,k9,hv9,ho9,hc9,hz9⟩:=h.ses.dat.here.row;have hn9:n9=W:=by rw[←ho9.ints.len];exact ok.len
 subst hn9;have hsl:(Ec s.row rt (Hw s.tx q1 n9) ra).length≤1000:=Vk ok.len hrn (Z1 _ _ _) (by have:=hrok.2.2.2.1;omega)
 have HSG:Hid (∀wq B d,Bi wq A9 n9 k9 s.row→Av wq 0 B n9 d (Hw s.tx q1 n9)→Calls Tryz.prog 38 #[.agg #[.slice A9 n9 k9,.int .i64 (rt:Int)],.agg #[.slice B n9 d,.int .i64 (ra:Int)]] wq fun e w'=>∃u,e=.returned u∧(∃S q r,u=.tuple #[.slice S q r,.int .i64 0]∧Av w' wq.heap.size S q r (Ec s.row rt (Hw s.tx q1 n9) ra))∧Al wq w'):=
  A4 fun wq B d hr9 hI=>(lU hr9 hI.ints (Ay.nocap' hI) (by rw[←hrt];exact hrok) hrn rfl).mono fun e w' ⟨S,q,r,h1,h2,h3⟩=>⟨_,h1,⟨S,q,r,rfl,h2⟩,h3⟩
 have HV:=A4 (Be hv8 (Be hv9 hrt));have hsl2:(Ec s.row rt (Hw s.tx q1 n9) ra).length≤1000000000:=by omega
 have hWb:n9≤120:=ok.hi;obtain⟨news,hnews⟩:∃x,x=Ec s.row rt (Hw s.tx q1 n9) ra:=⟨_,rfl⟩;rw[←hnews]at HFin HSG hsl2;obtain⟨row,hrow0⟩:∃x,x=Hw s.tx q1 n9:=⟨_,rfl⟩;rw[←hrow0]at HFin HSG HROW;have hlb:s.tx.length≤4096:=by have:=hl.len;omega
 have HLst:Hid (∀wq,Bp wq v.tr (M6 s.tx)→Calls Tryz.prog 37 #[.agg #[.pointer v.tr]] wq fun e w'=>∃u,e=.returned u∧(∃A k,u=.slice A s.tx.length k∧Av w' wq.heap.size A s.tx.length k s.tx)∧Al wq w'):=
  A4 fun wq ht=>Fs ht hlb
 have HTr:=A4 h.ses.dat.here.tr;have hbl:=hb.ext (Al.drew w);have hvl:n8≤1000000000:=by omega
 clear h hb hl ok kb1 kb2 kb3 kb4 kb5 kb6 kb7 hwid e14 hK0 hWi hrok hrn hra hrt hv8 ho8 hg8 hn8 hv9 ho9 hc9 hz9 hsl hvis hnews hrow0 hlb;go_enter Tryz.func14,Tryz.ntmps14
 go_upto_region 0 with fail
 refine Gm (S:=fun w'=>Al w w') 20 (by kernel_rfl) (Al.drew w) (fun hS=>?_)
 generalize w.drew=cur at*;refine Ba (i:=0) (v:=(.pointer (some ⟨p,0,none⟩))) rfl (by kernel_rfl) (by kernel_rfl) (by kernel_rfl) (by decide) (fun _ _ _ h=>h) (Or.inl ⟨by rfl,by(intro w' hSw;go_simp)⟩) (fun hl=>by first|exact hS|exact absurd hl (by decide)) ?_
 try simp only[Ab,A7,Aa,Am,A6,Ac,Ad]
 refine Ba (i:=1) (v:=(.pointer (some ⟨p,0,none⟩))) rfl (by kernel_rfl) (by kernel_rfl) (by kernel_rfl) (by decide) (fun _ _ _ h=>h) (Or.inl ⟨by rfl,by(intro w' hSw;go_simp)⟩) (fun hl=>by first|exact hS|exact absurd hl (by decide)) ?_
 try simp only[Ab,A7,Aa,Am,A6,Ac,Ad]
 refine Ba (i:=2) (v:=(.pointer (some ⟨p,0,none⟩))) rfl (by kernel_rfl) (by kernel_rfl) (by kernel_rfl) (by decide) (fun _ _ _ h=>h) (Or.inl ⟨by rfl,by(intro w' hSw;go_simp)⟩) (fun hl=>by first|exact hS|exact absurd hl (by decide)) ?_
 try simp only[Ab,A7,Aa,Am,A6,Ac,Ad]
 refine Ba (i:=3) (v:=(.pointer (some ⟨p,0,none⟩))) rfl (by kernel_rfl) (by kernel_rfl) (by kernel_rfl) (by decide) (fun _ _ _ h=>h) (Or.inl ⟨by rfl,by(intro w' hSw;go_simp)⟩) (fun hl=>by first|exact hS|exact absurd hl (by decide)) ?_
 try simp only[Ab,A7,Aa,Am,A6,Ac,Ad]
 refine Ba (i:=4) (v:=(.pointer (some ⟨p,0,none⟩))) rfl (by kernel_rfl) (by kernel_rfl) (by kernel_rfl) (by decide) (fun _ _ _ h=>h) (Or.inl ⟨by rfl,by(intro w' hSw;go_simp)⟩) (fun hl=>by first|exact hS|exact absurd hl (by decide)) ?_
 try simp only[Ab,A7,Aa,Am,A6,Ac,Ad]
 refine Ba (i:=7) (v:=(.pointer (some ⟨p,0,none⟩))) rfl (by kernel_rfl) (by kernel_rfl) (by kernel_rfl) (by decide) (fun _ _ _ h=>h) (Or.inl ⟨by rfl,by(intro w' hSw;go_simp)⟩) (fun hl=>by first|exact hS|exact absurd hl (by decide)) ?_
 try simp only[Ab,A7,Aa,Am,A6,Ac,Ad]
 refine Ba (i:=8) (v:=(.pointer (some ⟨p,0,none⟩))) rfl (by kernel_rfl) (by kernel_rfl) (by kernel_rfl) (by decide) (fun _ _ _ h=>h) (Or.inl ⟨by rfl,by(intro w' hSw;go_simp)⟩) (fun hl=>by first|exact hS|exact absurd hl (by decide)) ?_
 try simp only[Ab,A7,Aa,Am,A6,Ac,Ad]
 refine Ba (i:=9) (v:=(.pointer (some ⟨p,0,none⟩))) rfl (by kernel_rfl) (by kernel_rfl) (by kernel_rfl) (by decide) (fun _ _ _ h=>h) (Or.inl ⟨by rfl,by(intro w' hSw;go_simp)⟩) (fun hl=>by first|exact hS|exact absurd hl (by decide)) ?_
 try simp only[Ab,A7,Aa,Am,A6,Ac,Ad]
 refine Ba (i:=10) (v:=(.pointer (some ⟨p,1,none⟩))) rfl (by kernel_rfl) (by kernel_rfl) (by kernel_rfl) (by decide) (fun _ _ _ h=>h) (Or.inl ⟨by rfl,by(intro w' hSw;go_simp)⟩) (fun hl=>by first|exact hS|exact absurd hl (by decide)) ?_
 try simp only[Ab,A7,Aa,Am,A6,Ac,Ad]
 refine Ew (i:=11) (v:=(.int .i64 s.at_)) rfl (by kernel_rfl) (by kernel_rfl) (by kernel_rfl) (by kernel_rfl) (by decide) (by kernel_rfl) (fun _ _ _ h=>h) (Or.inl ⟨by rfl,by(intro w' hSw;have e0:w'.cell? ⟨p,1,none⟩=some (.int .i64 s.at_):=((H.out.ext hSw).ses.blk).cell 1;go_simp)⟩) hS ?_
 try simp only[Ab,A7,Aa,Am,A6,Ac,Ad]
 refine Ba (i:=12) (v:=(.pointer (some ⟨p,0,none⟩))) rfl (by kernel_rfl) (by kernel_rfl) (by kernel_rfl) (by decide) (fun _ _ _ h=>h) (Or.inl ⟨by rfl,by(intro w' hSw;go_simp)⟩) (fun hl=>by first|exact hS|exact absurd hl (by decide)) ?_
 try simp only[Ab,A7,Aa,Am,A6,Ac,Ad]
 refine Ba (i:=13) (v:=(.pointer (some ⟨p,0,none⟩))) rfl (by kernel_rfl) (by kernel_rfl) (by kernel_rfl) (by decide) (fun _ _ _ h=>h) (Or.inl ⟨by rfl,by(intro w' hSw;go_simp)⟩) (fun hl=>by first|exact hS|exact absurd hl (by decide)) ?_
 try simp only[Ab,A7,Aa,Am,A6,Ac,Ad]
 refine Ba (i:=14) (v:=(.pointer (some ⟨p,51,none⟩))) rfl (by kernel_rfl) (by kernel_rfl) (by kernel_rfl) (by decide) (fun _ _ _ h=>h) (Or.inl ⟨by rfl,by(intro w' hSw;go_simp)⟩) (fun hl=>by first|exact hS|exact absurd hl (by decide)) ?_
 try simp only[Ab,A7,Aa,Am,A6,Ac,Ad]
 refine Ew (i:=15) (v:=(.int .i64 s.off)) rfl (by kernel_rfl) (by kernel_rfl) (by kernel_rfl) (by kernel_rfl) (by decide) (by kernel_rfl) (fun _ _ _ h=>h) (Or.inl ⟨by rfl,by(intro w' hSw;have e0:w'.cell? ⟨p,51,none⟩=some (.int .i64 s.off):=((H.out.ext hSw).ses.blk).cell 51;go_simp)⟩) hS ?_
 try simp only[Ab,A7,Aa,Am,A6,Ac,Ad]
 refine Ba (i:=16) (v:=(.pointer (some ⟨p,0,none⟩))) rfl (by kernel_rfl) (by kernel_rfl) (by kernel_rfl) (by decide) (fun _ _ _ h=>h) (Or.inl ⟨by rfl,by(intro w' hSw;go_simp)⟩) (fun hl=>by first|exact hS|exact absurd hl (by decide)) ?_
 try simp only[Ab,A7,Aa,Am,A6,Ac,Ad]
 refine Ba (i:=17) (v:=(.pointer (some ⟨p,0,none⟩))) rfl (by kernel_rfl) (by kernel_rfl) (by kernel_rfl) (by decide) (fun _ _ _ h=>h) (Or.inl ⟨by rfl,by(intro w' hSw;go_simp)⟩) (fun hl=>by first|exact hS|exact absurd hl (by decide)) ?_
 try simp only[Ab,A7,Aa,Am,A6,Ac,Ad]
 refine Ba (i:=18) (v:=(.pointer (some ⟨p,52,none⟩))) rfl (by kernel_rfl) (by kernel_rfl) (by kernel_rfl) (by decide) (fun _ _ _ h=>h) (Or.inl ⟨by rfl,by(intro w' hSw;go_simp)⟩) (fun hl=>by first|exact hS|exact absurd hl (by decide)) ?_
 try simp only[Ab,A7,Aa,Am,A6,Ac,Ad]
 refine Ew (i:=19) (v:=(.int .i64 Wi)) rfl (by kernel_rfl) (by kernel_rfl) (by kernel_rfl) (by kernel_rfl) (by decide) (by kernel_rfl) (fun _ _ _ h=>h) (Or.inl ⟨by rfl,by(intro w' hSw;have e0:=H14.out w' hSw;go_simp)⟩) hS ?_
 try simp only[Ab,A7,Aa,Am,A6,Ac,Ad]
 have d0:cur.cell? ⟨p,0,none⟩=some (.pointer v.tr):=hbl.cell 0;refine Gt (i:=5) (by decide +kernel) rfl (fun K hK=>?_)
 go_simp
 refine hK.out _ _ hS (fun _=>?_)
 clear hK K d0
 try simp only[Ab,A7,Aa,Am,A6,Ac,Ad]
 refine Gt (i:=6) (by decide +kernel) rfl (fun K hK=>?_)
 refine C9 rfl 30 #[.agg #[.pointer v.tr]] rfl (by kernel_rfl) (fun u w'=>u=.int .i64 s.tx.length) (HLen.out _ hS) ?_
 rintro u w2 rfl hE;refine hK.out _ _ (hS.trans hE) (fun hS'=>?_)
 replace hS:=hS';clear hK K hE hS' hbl
 try simp only[Ab,A7,Aa,Am,A6,Ac,Ad]
 refine Ex (i:=20) (by decide +kernel) rfl (by decide +kernel) (fun K hK=>?_)
 refine C9 rfl 35 #[.int .i64 s.tx.length,.int .i64 s.at_,.int .i64 s.off,.int .i64 Wi] rfl (by kernel_rfl) (fun u w'=>u=.tuple #[.int .i64 q1,.int .i64 0]) (HScr.out _) ?_
 rintro u w3 rfl hE;have hS3:=hS.trans hE;refine hK.out _ _ ?_
 clear hK K hS hE
 try simp only[Ab,A7,Aa,Am,A6,Ac,Ad]
 refine Ba (i:=21) (v:=(.tuple #[.int .i64 q1,.int .i64 0])) rfl (by kernel_rfl) (by kernel_rfl) (by kernel_rfl) (by decide) (fun _ _ _ h=>h) (Or.inl ⟨by rfl,by(intro w' hSw;go_simp)⟩) (fun hl=>by first|exact hS|exact absurd hl (by decide)) ?_
 try simp only[Ab,A7,Aa,Am,A6,Ac,Ad]
 refine Ba (i:=22) (v:=(.int .i64 q1)) rfl (by kernel_rfl) (by kernel_rfl) (by kernel_rfl) (by decide) (fun _ _ _ h=>h) (Or.inl ⟨by rfl,by(intro w' hSw;go_simp)⟩) (fun hl=>by first|exact hS|exact absurd hl (by decide)) ?_
 try simp only[Ab,A7,Aa,Am,A6,Ac,Ad]
 refine Ba (i:=23) (v:=(.int .i64 0)) rfl (by kernel_rfl) (by kernel_rfl) (by kernel_rfl) (by decide) (fun _ _ _ h=>h) (Or.inl ⟨by rfl,by(intro w' hSw;go_simp)⟩) (fun hl=>by first|exact hS|exact absurd hl (by decide)) ?_
 try simp only[Ab,A7,Aa,Am,A6,Ac,Ad]
 refine Ba (i:=24) (v:=(.pointer (some ⟨p,0,none⟩))) rfl (by kernel_rfl) (by kernel_rfl) (by kernel_rfl) (by decide) (fun _ _ _ h=>h) (Or.inl ⟨by rfl,by(intro w' hSw;go_simp)⟩) (fun hl=>by first|exact hS|exact absurd hl (by decide)) ?_
 try simp only[Ab,A7,Aa,Am,A6,Ac,Ad]
 refine Ba (i:=25) (v:=(.pointer (some ⟨p,51,none⟩))) rfl (by kernel_rfl) (by kernel_rfl) (by kernel_rfl) (by decide) (fun _ _ _ h=>h) (Or.inl ⟨by rfl,by(intro w' hSw;go_simp)⟩) (fun hl=>by first|exact hS|exact absurd hl (by decide)) ?_
 try simp only[Ab,A7,Aa,Am,A6,Ac,Ad]
 have hb3:=H.out.ses.blk.ext hS3;have g51:w3.cell? ⟨p,51,none⟩=some (.int .i64 s.off):=hb3.cell 51;have f51:=hb3.frozen 51;refine Ex (i:=26) (by decide +kernel) rfl (by decide +kernel) (fun K hK=>?_)
 go_simp
 refine hK.out _ _ ?_
 have c4:=(Dh.start hS3 hb3).set 51 (.int .i64 q1);have HT4:Hid (Bp (w3.setCell ⟨p,51,none⟩ (.int .i64 q1)) v.tr (M6 s.tx)):=A4 (Bp.alt c4.alt HTr.out);have HM4:=A4 (H.out.chain c4 v { s with off:=q1 } (by kernel_rfl) (fun w'' _ ht hd=>⟨hd.1,hd.2,hd.3,hd.4,hd.5,hd.6,hd.7,hd.8⟩))
 clear hK K g51 f51 hb3 hS3 c4;generalize w3.setCell ⟨p,51,none⟩ (.int .i64 q1)=w4 at*;refine Kw (by kernel_rfl) ?_ _
 go_upto_region 1 with fail
 have HBL:Hid (∀wq,Al w4 wq→_):=A4 (fun wq he=>HM4.out.1.ses.blk.ext he)
 have H14b:Hid (∀wq,Al w4 wq→wq.cell? ⟨p,52,none⟩=some (.int .i64 Wi)):=A4 fun wq he=>((HM4.out.1.ses.blk.ext he).cell 52).trans ((H.out.ses.blk.cell 52).symm.trans (H14.out w (Al.refl w)))
 have hS4:Al w4 w4.drew:=Al.drew w4;refine wp_region_held_drew (S:=fun w'=>Al w4 w') (by kernel_rfl) hS4 (fun hS=>?_)
 clear hS4;refine B8 (i:=0) (v:=(.pointer (some ⟨p,0,none⟩))) rfl hS ?_
 refine B8 (i:=1) (v:=(.pointer (some ⟨p,0,none⟩))) rfl hS ?_
 refine B8 (i:=2) (v:=(.pointer (some ⟨p,0,none⟩))) rfl hS ?_
 refine B8 (i:=3) (v:=(.pointer (some ⟨p,0,none⟩))) rfl hS ?_
 refine F4 (i:=4) (v:=(.agg #[.pointer v.tr])) rfl (fun w' hSw=>by have e0:w'.cell? ⟨p,0,none⟩=some (.pointer v.tr):=(HBL.out _ hSw).cell 0;go_simp) hS ?_
 refine B8 (i:=6) (v:=(.pointer (some ⟨p,0,none⟩))) rfl hS ?_
 refine B8 (i:=7) (v:=(.pointer (some ⟨p,0,none⟩))) rfl hS ?_
 refine B8 (i:=8) (v:=(.pointer (some ⟨p,0,none⟩))) rfl hS ?_
 refine B8 (i:=9) (v:=(.pointer (some ⟨p,1,none⟩))) rfl hS ?_
 refine F4 (i:=10) (v:=(.int .i64 s.at_)) rfl (fun w' hSw=>by have e0:w'.cell? ⟨p,1,none⟩=some (.int .i64 s.at_):=(HBL.out _ hSw).cell 1;go_simp) hS ?_
 refine B8 (i:=11) (v:=(.pointer (some ⟨p,0,none⟩))) rfl hS ?_
 refine B8 (i:=12) (v:=(.pointer (some ⟨p,0,none⟩))) rfl hS ?_
 refine B8 (i:=13) (v:=(.pointer (some ⟨p,51,none⟩))) rfl hS ?_
 refine F4 (i:=14) (v:=(.int .i64 q1)) rfl (fun w' hSw=>by have e0:w'.cell? ⟨p,51,none⟩=some (.int .i64 q1):=(HBL.out _ hSw).cell 51;go_simp) hS ?_
 refine B8 (i:=15) (v:=(.pointer (some ⟨p,0,none⟩))) rfl hS ?_
 refine B8 (i:=16) (v:=(.pointer (some ⟨p,0,none⟩))) rfl hS ?_
 refine B8 (i:=17) (v:=(.pointer (some ⟨p,52,none⟩))) rfl hS ?_
 refine F4 (i:=18) (v:=(.int .i64 Wi)) rfl (fun w' hSw=>by have e0:=H14b.out w' hSw;go_simp) hS ?_
 generalize w4.drew=cur4 at*
 iterate 3
  all_goals (first|refine wpAnyH_ready (rs:=[5,23]) (by decide +kernel) (by simp) (Ah rfl (fun K hK=>?_) (Ah rfl (fun K hK=>?_) Ak))|refine wpAnyH_ready (rs:=[19,23]) (by decide +kernel) (by simp) (Ah rfl (fun K hK=>?_) (Ah rfl (fun K hK=>?_) Ak))|refine wpAnyH_ready (rs:=[5]) (by decide +kernel) (by simp) (Ah rfl (fun K hK=>?_) Ak)|refine wpAnyH_ready (rs:=[19]) (by decide +kernel) (by simp) (Ah rfl (fun K hK=>?_) Ak)|refine wpAnyH_ready (rs:=[23]) (by decide +kernel) (by simp) (Ah rfl (fun K hK=>?_) Ak))
  all_goals (first
   |(
    refine C9 rfl 36 #[.slice A s.tx.length k,.int .i64 s.at_,.int .i64 q1,.int .i64 Wi] rfl (by kernel_rfl) (fun u w'=>∃B d,u=.tuple #[.agg #[.slice B n9 d,.int .i64 (ra:Int)],.int .i64 0]∧Av w' w4.heap.size B n9 d row) ((HROW.out _ A s.tx.length k hoL.ints).mono fun e w' ⟨u,h1,⟨B,d,h2,h3⟩,h4⟩=>⟨u,h1,⟨B,d,h2,h3.lower hS.hsize⟩,h4⟩) ?_
    rintro u w5 ⟨B,d,rfl,hR⟩ hE;refine hK.out _ _ (hS.trans hE) (fun hS'=>?_)
    clear hK K hoL
    try replace hb5:=An.ext hb5 hE
    replace hS:=hS';clear hS' hE
    try simp only[Ab,A7,Aa,Am,A6,Ac,Ad]
    refine B8 (i:=20) (v:=.tuple #[.agg #[.slice B n9 d,.int .i64 (ra:Int)],.int .i64 0]) rfl hS ?_
    refine B8 (i:=21) (v:=.agg #[.slice B n9 d,.int .i64 (ra:Int)]) rfl hS ?_
    refine wpAnyH_take (i:=22) (v:=.int .i64 0) rfl (by kernel_rfl) (by kernel_rfl) (by kernel_rfl) (fun _ _ _ h=>h) (Or.inl ⟨by rfl,by(intro w' hSw;go_simp)⟩) hS ?_
    try simp only[Ab,A7,Aa,Am,A6,Ac,Ad])
   |(
    refine C9 rfl 37 #[.agg #[.pointer v.tr]] rfl (by kernel_rfl) (fun u w'=>∃A k,u=.slice A s.tx.length k∧Av w' (World.heap _).size A s.tx.length k s.tx) (HLst.out _ (Bp.ext hS HT4.out)) ?_
    rintro u w5 ⟨A,k,rfl,hoL⟩ hE;refine hK.out _ _ (hS.trans hE) (fun hS'=>?_)
    clear hK K;replace hoL:Av _ 0 A s.tx.length k s.tx:=Ay.lower hoL (Aw _)
    try replace hb5:=An.ext hb5 hE
    replace hS:=hS';clear hS' hE
    try simp only[Ab,A7,Aa,Am,A6,Ac,Ad])
   |(
    go_simp
    refine hK.out _ _ (hS.to_alloc (.cells #[.slice none 0 0,.int .i64 0] 43)) (fun hS'=>?_)
    clear hK K;have hE:=L2 hS'
    try replace hoL:=Av.ext hoL hE
    try replace hR:=Av.ext hR hE
    obtain⟨g5,hg5,hb5⟩:=tX hS';have hz5:=hS.hsize;rw[←hg5]at hz5 ⊢;clear hg5;replace hS:=hS';clear hS' hE;generalize World.alloc _ _=nx at*
    try simp only[Ab,A7,Aa,Am,A6,Ac,Ad]))
 all_goals
  have e40:=hb5.cell 0;have e41:=hb5.cell 1;have f40:=hb5.frozen 0;have f41:=hb5.frozen 1;simp only[List.getElem?_toArray,List.getElem?_cons_zero,List.getElem?_cons_succ]at e40 e41;refine wpAnyH_ready (rs:=[24]) (by decide +kernel) (by simp) (Ah rfl (fun K hK=>?_) Ak)
  go_simp
  have hR':=Hm hR hb5 (by decide) (.slice B n9 d) (.int .i64 (ra:Int))
  have hb5':=Ds hb5 (.slice B n9 d) (.int .i64 (ra:Int));have hS':=Dr hS hz5 (.slice B n9 d) (.int .i64 (ra:Int));clear e40 e41 f40 f41 hb5 hR hS;generalize Bb (Bb _ _ _) _ _=w5 at*;refine hK.out _ _ hS' (fun hS=>?_)
  clear hK K hS'
  try simp only[Ab,A7,Aa,Am,A6,Ac,Ad]
  refine wpAnyH_ready (rs:=[25]) (by decide +kernel) (by simp) (Ah rfl (fun K hK=>?_) Ak)
  go_simp
  refine hK.out _ _ hS (fun _=>?_)
  clear hK K;refine wpAnyH_done (by kernel_rfl) ?_ _
  go_upto_region 2 with fail
  have hS5:Al w4 w5.drew:=hS.trans (Al.drew w5);have HB5:Hid (∀wq,Al w5.drew wq→An wq g5 43 #[.slice B n9 d,.int .i64 (ra:Int)]):=A4 fun wq he=>(hb5'.ext (Al.drew w5)).ext he
  have hR5:Av w5.drew w4.heap.size B n9 d row:=Av.ext hR' (Al.drew w5);refine wp_region_held_drew (S:=fun w'=>Al w5.drew w') (by kernel_rfl) (Al.refl _) (fun hS'=>?_)
  replace hS:=hS';clear hR' hb5' hS';generalize w5.drew=cur5 at*;refine B8 (i:=0) (v:=(.pointer (some ⟨p,0,none⟩))) rfl hS ?_
  refine B8 (i:=1) (v:=(.pointer (some ⟨p,0,none⟩))) rfl hS ?_
  refine B8 (i:=2) (v:=(.pointer (some ⟨p,53,none⟩))) rfl hS ?_
  refine F4 (i:=3) (v:=(.agg #[v.row,.int .i64 s.rat])) rfl (fun w' hSw=>by exact De 43 (.tmp 58) rfl p 53 2 rfl (HBL.out _ (hS5.trans hSw)) (by kernel_rfl) Tryz.underlying43 rfl (by kernel_rfl)) hS ?_
  rw[HV.out.2.1,HV.out.2.2];refine F4 (i:=4) (v:=(.agg #[.slice B n9 d,.int .i64 (ra:Int)])) rfl (fun w' hSw=>by exact De 43 (.tmp 2) rfl g5 0 2 rfl (HB5.out _ hSw) (by kernel_rfl) Tryz.underlying43 rfl (by kernel_rfl)) hS ?_
  have hI9:Bi cur5 A9 n9 k9 s.row:=by
   obtain⟨A',n',k',e',ho',_⟩:=(HM4.out.1.ext hS5).ses.dat.here.row;have e':v.row=.slice A' n' k':=e';rw[HV.out.2.1]at e';injection e' with e1 e2 e3;subst e1 e2 e3;exact ho'.ints
  refine wpAnyH_ready (rs:=[5]) (by decide +kernel) (by simp) (Ah rfl (fun K hK=>?_) Ak)
  refine C9 rfl 38 #[.agg #[.slice A9 n9 k9,.int .i64 (rt:Int)],.agg #[.slice B n9 d,.int .i64 (ra:Int)]] rfl (by kernel_rfl) (fun u w'=>∃S q r,u=.tuple #[.slice S q r,.int .i64 0]∧Av w' cur5.heap.size S q r news) (HSG.out _ B d hI9 (Ay.lower hR5 (Aw _))) ?_
  rintro u w6 ⟨S,q,r,rfl,hSg⟩ hE;refine hK.out _ _ hE (fun hS'=>?_)
  replace hS:=hS';clear hK K hS' hI9;have he46:=hS5.trans hE;have hR6:=Av.ext hR5 hE;have hb6:=HB5.out _ hE
  try simp only[Ab,A7,Aa,Am,A6,Ac,Ad]
  refine B8 (i:=6) (v:=(.tuple #[.slice S q r,.int .i64 0])) rfl hS ?_
  refine B8 (i:=7) (v:=(.slice S q r)) rfl hS ?_
  refine B8 (i:=8) (v:=(.int .i64 0)) rfl hS ?_
  refine B8 (i:=9) (v:=(.slice S q r)) rfl hS ?_
  refine B8 (i:=10) (v:=(.int .i64 0)) rfl hS ?_
  refine wpAnyH_done (by kernel_rfl) ?_ _
  have hbl6:=HBL.out _ he46;have g57:w6.cell? ⟨p,57,none⟩=some (.slice A8 n8 c8):=(hbl6.cell 57).trans (congrArg some HV.out.1);have hown8:Av w6 0 A8 n8 c8 s.vis:=by
   obtain⟨A',n',k',e',ho',_⟩:=(HM4.out.1.ext he46).vis;have e':v.vis=.slice A' n' k':=e';rw[HV.out.1]at e';injection e' with e1 e2 e3;subst e1 e2 e3;exact ho'
  have hql:news.length=q:=hSg.ints.len;have H6:=A4 (Be he46 (Be hR6 (Be hb6 hz5)));have HB5b:=HB5;have hxx:=U5 w6;clear hbl6 hR5 hS hS5 hE HB5 H14b hR6 hb6;go_wp2_with (at_builtin;refine Fn rfl (.tmp 68) (.tmp 69) 27 rfl (pY w6) 0 3 i0 (.int .i64 0) 1 8 Tryz.underlying27 hi hz0 hz1 hz2 rfl (by decide) A8 n8 c8 _ rfl hown8 S q r _ rfl hSg.ints (ints_oneCell _ _) (by unfold maxLen;omega) (by omega) hxx (Ai _) (Aw _) ?_)
  intro A2 c2 w7 hO2 hgr hor hx7;obtain⟨hs6,hb7,hs7,hdoes⟩:=lV HM4.out.1 H6.out.1 HV.out.1 H6.out.2.1 (Ai _) hWb H6.out.2.2.1 H6.out.2.2.2 hO2 hgr hor;have g57:w7.cell? ⟨p,57,none⟩=some v.vis:=hs6.cell 57;have f57:=hs6.frozen 57;have HD:=A4 hdoes;clear hO2 hgr hor hx7 hxx hown8 hSg hs6 hdoes hql;go_upto_region 4 with fail
  clear g57 f57;generalize w7.setCell ⟨p,57,none⟩ (.slice A2 (n8+q) c2)=w8 at*;have e0:w8.cell? ⟨g5,0,none⟩=some (.slice B n9 d):=hb7.cell 0;have e1:w8.cell? ⟨g5,1,none⟩=some (.int .i64 (ra:Int)):=hb7.cell 1;have d53:w8.cell? ⟨p,53,none⟩=some v.row:=hs7.cell 53;have d54:w8.cell? ⟨p,54,none⟩=some (.int .i64 s.rat):=hs7.cell 54;have f53:=hs7.frozen 53;have f54:=hs7.frozen 54;clear hb7 hs7;go_wp2_with fail
  go_end0
  refine⟨rfl,?_⟩
  rw[HFin.out];exact Br.trans HM4.out.2 HD.out
end
