/-
  Part ZViP.
-/
import Derived.Test.YtkaefdmhlmlhbaaGreatZViG
import Derived.Test.YtkaefdmhlmlhbaaGreatZDoV
set_option maxRecDepth 100000
set_option maxHeartbeats 16000000
set_option linter.unusedVariables false
set_option linter.unusedSimpArgs false
namespace Go.Proofs.YtkaefdmhlmlhbaaGreat
open Go.RowKit
open _root_.Go.Proofs.Tryz
open _root_.Array renaming getElem?_eq_none→Tg
open Act renaming put→Ao
open AllReadyH renaming cons→Ai,nil→Am
open _root_.List renaming getElem_cons_succ→Ab,getElem_cons_zero→Aa,getElem_toArray→Ac,mem_singleton→Cw,setIfInBounds_toArray→A7,set_cons_succ→Ae,set_cons_zero→Ad
open _root_.Nat renaming lt_of_lt_of_le→Bo,zero_le→B8
open Value renaming slice→Ak
open Region renaming ready→Jv,wanted→Bu
section
variable {col:Nat→Nat}{w w':World}{s:PS}{p q k K b b':Nat}{k1 k2 k5 key a fk fa er:Int}{rl:Nat→List Int}{r:Nat→Value}{cs vs:Array Value}{A B:Option Addr}{l:List Int}{c:Cm}{xs:List Value}
def Rv (v:Int):Prop:=v=120∨v=88∨v=115∨v=83∨v=67∨v=68∨v=112∨v=80∨v=126∨v=114∨v=105∨v=73∨v=97∨v=65∨v=82
instance (v:Int):Decidable (Rv v):=by unfold Rv;infer_instance
def Vk (o v:Int):Bool:=if o=100∨o=99 then true else if o=121 then false else decide (Rv v)
theorem jQ (w:World)(k1 k2 o v k5:Int):
 Calls prog 138 #[.agg #[k1,k2,o,v,k5]] w fun e w'=>e=.returned (.bool (Vk o v))∧An w w':=by
 have hx:=A6 (An.alloc w (.cells #[k1,k2,o,v,k5] 62));by_cases a1:o=100
 ·subst a1
  exact I43
 by_cases a2:o=99
 ·subst a2
  exact I43
 have b1:(o==100)=false:=by simpa using a1
 have b2:(o==99)=false:=by simpa using a2
 by_cases a3:o=121
 ·subst a3
  exact I43
 have b3:(o==121)=false:=by simpa using a3
 have hc:Vk o v=decide (Rv v):=by unfold Vk;rw[if_neg (by omega),if_neg a3]
 by_cases hm:Rv v
 ·have LN:Hid (Vk o v=true):=A6 (by rw[hc];exact decide_eq_true hm)
  clear a1 a2 a3 hc;unfold Rv at hm;rcases hm with rfl|rfl|rfl|rfl|rfl|rfl|rfl|rfl|rfl|rfl|rfl|rfl|rfl|rfl|rfl
  all_goals
   go_enter func138,ntmps138
   exact I132
 ·have LN:Hid (Vk o v=false):=A6 (by rw[hc];exact decide_eq_false hm)
  clear a1 a2 a3 hc;unfold Rv at hm;have c120:(v==120)=false:=by
   have:v≠120:=fun e=>hm (.inl e)
   simpa using this
  have c88:(v==88)=false:=by
   have:v≠88:=fun e=>hm (.inr (.inl e))
   simpa using this
  have c115:(v==115)=false:=by
   have:v≠115:=fun e=>hm (.inr (.inr (.inl e)))
   simpa using this
  have c83:(v==83)=false:=by
   have:v≠83:=fun e=>hm (.inr (.inr (.inr (.inl e))))
   simpa using this
  have c67:(v==67)=false:=by
   have:v≠67:=fun e=>hm (.inr (.inr (.inr (.inr (.inl e)))))
   simpa using this
  have c68:(v==68)=false:=by
   have:v≠68:=fun e=>hm (.inr (.inr (.inr (.inr (.inr (.inl e))))))
   simpa using this
  have c112:(v==112)=false:=by
   have:v≠112:=fun e=>hm (.inr (.inr (.inr (.inr (.inr (.inr (.inl e)))))))
   simpa using this
  have c80:(v==80)=false:=by
   have:v≠80:=fun e=>hm (.inr (.inr (.inr (.inr (.inr (.inr (.inr (.inl e))))))))
   simpa using this
  have c126:(v==126)=false:=by
   have:v≠126:=fun e=>hm (.inr (.inr (.inr (.inr (.inr (.inr (.inr (.inr (.inl e)))))))))
   simpa using this
  have c114:(v==114)=false:=by
   have:v≠114:=fun e=>hm (.inr (.inr (.inr (.inr (.inr (.inr (.inr (.inr (.inr (.inl e))))))))))
   simpa using this
  have c105:(v==105)=false:=by
   have:v≠105:=fun e=>hm (.inr (.inr (.inr (.inr (.inr (.inr (.inr (.inr (.inr (.inr (.inl e)))))))))))
   simpa using this
  have c73:(v==73)=false:=by
   have:v≠73:=fun e=>hm (.inr (.inr (.inr (.inr (.inr (.inr (.inr (.inr (.inr (.inr (.inr (.inl e))))))))))))
   simpa using this
  have c97:(v==97)=false:=by
   have:v≠97:=fun e=>hm (.inr (.inr (.inr (.inr (.inr (.inr (.inr (.inr (.inr (.inr (.inr (.inr (.inl e)))))))))))))
   simpa using this
  have c65:(v==65)=false:=by
   have:v≠65:=fun e=>hm (.inr (.inr (.inr (.inr (.inr (.inr (.inr (.inr (.inr (.inr (.inr (.inr (.inr (.inl e))))))))))))))
   simpa using this
  have c82:(v==82)=false:=by
   have:v≠82:=fun e=>hm (.inr (.inr (.inr (.inr (.inr (.inr (.inr (.inr (.inr (.inr (.inr (.inr (.inr (.inr (e)))))))))))))))
   simpa using this
  clear hm;go_enter func138,ntmps138
  exact I132
theorem Lt.lower {m:List Int}{at_ md fk fa:Int}{e:List Gp}(h:Lt w b vs m at_ md fk fa rl e)(hb:b'≤b):Lt w b' vs m at_ md fk fa rl e:=
 {
  h with
  text:=let ⟨B,q,d,h1,h2⟩:=h.text;⟨B,q,d,h1,Bd.lower h2 hb⟩
  regs:=fun j hj=>let ⟨v,h1,h2⟩:=h.regs j hj;⟨v,h1,h2.lower hb⟩
  edit:=let ⟨v,h1,h2⟩:=h.edit;⟨v,h1,h2.lower hb⟩ }
structure Dn where
 tx:List Int
 at_:Int
 md:Int
 fk:Int
 fa:Int
 rl:Nat→List Int
def Yr (l:List Int)(rl:Nat→List Int)(a fk fa:Int)(c:Cm)(d:Dn):Prop:=
 Rg l.length a c.count fk c.op∧∃ed,Kz l l.length a.toNat rl c.count c.reg (Gg c.op c.verb).1 (Gg c.op c.verb).2 c.arg fk fa d.tx d.at_ d.md d.fk d.fa d.rl ed
open Classical in
noncomputable def L2 (l:List Int)(rl:Nat→List Int)(a fk fa:Int)(c:Cm):Option Dn:=
 if h:∃d,Yr l rl a fk fa c d then some h.choose else none
def DoR (o:Option Dn)(b:Nat)(vs:Array Value)(er:Int)(w:World):Prop:=
 (er=0∧∃d ed,o=some d∧Lt w b vs d.tx d.at_ d.md d.fk d.fa d.rl ed)∨(er≠0∧o=none∧vs=Gq)
theorem Q6 {d:Dn}(h:L2 l rl a fk fa c=some d):Yr l rl a fk fa c d:=by
 unfold L2 at h;split at h
 ·rename_i hx
  injection h with h;rw[←h];exact hx.choose_spec
 ·cases h
theorem wH (h:¬ ∃d,Yr l rl a fk fa c d):L2 l rl a fk fa c=none:=by
 unfold L2;rw[dif_neg h]
theorem fX {d:Dn}(h:Yr l rl a fk fa c d):L2 l rl a fk fa c=some d:=by
 have hx:∃d,Yr l rl a fk fa c d:=⟨d,h⟩;unfold L2;rw[dif_pos hx];obtain⟨hv,ed,h1⟩:=h;obtain⟨_,ed',h2⟩:=hx.choose_spec;obtain⟨e1,e2,e3,e4,e5,e6,_⟩:=h2.one h1 (Q7 hv.1.2.1 hv.1.2.2);generalize hx.choose=x at*;obtain⟨x1,x2,x3,x4,x5,x6⟩:=x;obtain⟨d1,d2,d3,d4,d5,d6⟩:=d;simp only at e1 e2 e3 e4 e5 e6;rw[e1,e2,e3,e4,e5,e6]
theorem J7c {n k:Nat}{rs:Array Value}(hl:Ba w 0 A n k l)(wl:∀x∈l,(Lit.int .i64 x).wf=true)(hr:Lp w rs rl):
 Calls prog 28 #[.agg #[.slice A n k,a],.agg rs,.agg #[fk,fa],.agg (Pe c)] w fun e w'=>∃u,e=.returned u∧(∃vs er,u=.tuple #[.agg vs,.int .i64 er]∧DoR (L2 l rl a fk fa c) w.heap.size vs er w')∧An w w':=by
 have hn:l.length=n:=hl.ints.len;refine(J1a hl.ints wl (Bd.nocap' hl) hr (a:=a) (fk:=fk) (fa:=fa) (k1:=c.count) (k2:=c.reg) (k3:=c.op) (k4:=c.verb) (k5:=c.arg)).mono ?_
 rintro e w' ⟨hx,⟨du,er,ey,rfl⟩|⟨vs,m,at_,md,zk,za,co,ed,rfl,hv,dp,hrel⟩⟩
 ·refine⟨_,rfl,⟨_,er,rfl,.inr ⟨ey,wH fun⟨d,hv,ed,hrel⟩=>du ?_,rfl⟩⟩,hx⟩
  rw[hn]at hv hrel;exact⟨hv,hrel.ok (fun h0=>(Zt h0).1)⟩
 ·refine⟨_,rfl,⟨_,0,rfl,.inl ⟨rfl,⟨m,at_,md,zk,za,co⟩,ed,?_,dp.lower (by omega)⟩⟩,hx⟩
  rw[←hn]at hv hrel;exact fX ⟨hv,ed,hrel⟩
theorem Dy {P:Program}{o:Oper}{a:Act}(ty:TypeId)(x:Operand)(ho:o.op=.load ty x)(g off n:Nat)(hx:a.eval x=.pointer (some ⟨g,off,none⟩)){t:TypeId}(hg:Aq w g t cs)
 {vs:Array Value} (hv:cs.extract off (off+n)=vs) {d:TypeDesc} (hu:P.underlying ty=some d) (hd:(match d with|.struct _|.array _ _=>true|_=>false)=true) (hi:(P.info? ty).map (·.size)=some vs.size):
 (execOp a.eval o).run P w=.ok (.value (.agg vs)) w:=by
 have h:=Jz (P:=P) w g off t ty cs vs (0,0) d hg (fun j u hj=>by
  rw[←hv,Array.getElem?_extract]at hj;split at hj
  ·exact hj
  ·cases hj) hu hd hi
 unfold execOp;simp only[ho,hx,Instr.loadAt,Instr.sureAddr,Sem.run_bind,Sem.run_pure,Result.andThen_ok,h]
def qY (B:Option Addr)(q k:Nat)(r:Nat→Value)(e:Value)(d:Dn):Array Value:=#[.slice B q k,.int .i64 d.at_,r 0,r 1,r 2,r 3,r 4,r 5,r 6,r 7,r 8,r 9,r 10,r 11,r 12,r 13,r 14,r 15,r 16,r 17,r 18,r 19,r 20,r 21,r 22,r 23,r 24,r 25,r 26,.int .i64 d.fk,.int .i64 d.fa,.int .i64 d.md,e]
structure Qu (w:World)(b:Nat)(B:Option Addr)(q k:Nat)(r:Nat→Value)(d:Dn):Prop where
 text:Ba w b B q k d.tx
 regs:∀j,j<27→Bl w b (r j) (d.rl j)
theorem Qu.ext {d:Dn}(h:Qu w b B q k r d)(he:An w w'):Qu w' b B q k r d:=⟨h.text.ext he,fun j hj=>(h.regs j hj).ext he⟩
theorem Qu.lower {d:Dn}(h:Qu w b B q k r d)(hb:b'≤b):Qu w b' B q k r d:=⟨Bd.lower h.text hb,fun j hj=>(h.regs j hj).lower hb⟩
theorem zB {b e z n c:Nat}(h:Bd w b e z A n c xs)(hw:∀k,b≤k→k<w.heap.size→w'.heap[k]? = w.heap[k]?):Bd w' b e z A n c xs:=
 Bd.same h fun k hk=>hw k (Bd.blk h k hk).1 (Bd.blk h k hk).2
theorem Qu.win {d:Dn}(h:Qu w b B q k r d)(hw:∀k,b≤k→k<w.heap.size→w'.heap[k]? = w.heap[k]?):Qu w' b B q k r d:=
 ⟨zB h.text hw,fun j hj=>(h.regs j hj).win hw⟩
theorem kY {base e z n c g t:Nat}(h:Bd w base e z A n c xs)(hb:Aq w g t cs)(ai:t≠e)(us:Array Value):Bd (w.setRow g us) base e z A n c xs:=
 Bd.same h fun k hk=>Go.setRow_other w g k us fun e=>Pq h hb ai (by rw[hk,e])
theorem Qu.row {b g t:Nat}{d:Dn}(h:Qu w b B q k r d)(hb:Aq w g t cs)(ht:t≠3)(us:Array Value):Qu (w.setRow g us) b B q k r d:=
 ⟨kY h.text hb ht us,fun j hj=>by
  obtain⟨A,n,c,e,h1,h2⟩:=h.regs j hj;exact⟨A,n,c,e,kY h1 hb ht us,h2⟩⟩
theorem yS {d:Dn}{ed:List Gp}(h:Lt w b vs d.tx d.at_ d.md d.fk d.fa d.rl ed):∃B q k r e,vs=qY B q k r e d∧Qu w b B q k r d∧vs.all (·.oneCell')=true:=by
 obtain⟨B,q,k,h1,h2⟩:=h.text;obtain⟨e,h3,_⟩:=h.edit;have hr:∀j,j<27→vs[2+j]? = some (vs[2+j]?.getD undef)∧Bl w b (vs[2+j]?.getD undef) (d.rl j):=fun j hj=>by
  obtain⟨v,e1,e2⟩:=h.regs j hj;rw[e1];exact⟨rfl,e2⟩
 refine⟨B,q,k,fun j=>vs[2+j]?.getD undef,e,?_,⟨h2,fun j hj=>(hr j hj).2⟩,h.one⟩
 refine Array.ext_getElem? fun i=>?_
 by_cases hi:33≤i
 ·rw[Tg (by rw[h.size];exact hi),Tg (by show 33≤i;exact hi)]
 ·match i,hi with
  |0,_=>exact h1
  |1,_=>exact h.oat
  |29,_=>exact h.c29
  |30,_=>exact h.c30
  |31,_=>exact h.c31
  |32,_=>exact h3
  |2,_=>exact(hr 0 (by decide)).1
  |3,_=>exact(hr 1 (by decide)).1
  |4,_=>exact(hr 2 (by decide)).1
  |5,_=>exact(hr 3 (by decide)).1
  |6,_=>exact(hr 4 (by decide)).1
  |7,_=>exact(hr 5 (by decide)).1
  |8,_=>exact(hr 6 (by decide)).1
  |9,_=>exact(hr 7 (by decide)).1
  |10,_=>exact(hr 8 (by decide)).1
  |11,_=>exact(hr 9 (by decide)).1
  |12,_=>exact(hr 10 (by decide)).1
  |13,_=>exact(hr 11 (by decide)).1
  |14,_=>exact(hr 12 (by decide)).1
  |15,_=>exact(hr 13 (by decide)).1
  |16,_=>exact(hr 14 (by decide)).1
  |17,_=>exact(hr 15 (by decide)).1
  |18,_=>exact(hr 16 (by decide)).1
  |19,_=>exact(hr 17 (by decide)).1
  |20,_=>exact(hr 18 (by decide)).1
  |21,_=>exact(hr 19 (by decide)).1
  |22,_=>exact(hr 20 (by decide)).1
  |23,_=>exact(hr 21 (by decide)).1
  |24,_=>exact(hr 22 (by decide)).1
  |25,_=>exact(hr 23 (by decide)).1
  |26,_=>exact(hr 24 (by decide)).1
  |27,_=>exact(hr 25 (by decide)).1
  |28,_=>exact(hr 26 (by decide)).1
  |n+33,h=>exact absurd (by omega) h
theorem Dm.paint {p a b:Nat}{v:SV}(h:Dm w col p v s)(hF:∀k,a≤k→k<b→col k=0)(hb:b≤w.heap.size):
 Dm w (fun k=>if a≤k∧k<b then 1 else col k) p v s:=by
 have hz:∀k c,c≠0→col k=c→(if a≤k∧k<b then 1 else col k)=c:=fun k c hc e=>by
  rw[if_neg fun hk=>hc (e.symm.trans (hF k hk.1 hk.2))]
  exact e
 obtain⟨⟨h1,h2,h3,h4,h5⟩,h6,h7⟩:=h;refine⟨⟨h1,hz p 7 (by decide) h2,h3.mono fun k _ e=>hz k 1 (by decide) e,?_,fun k hk=>?_⟩,?_,?_⟩
 ·rcases hv:v.now with _|x<;>rcases hs:s.now with _|⟨c,l⟩<;>rw[hv,hs]at h4
  ·trivial
  ·exact h4
  ·exact h4
  ·obtain⟨g,y,e,g1,g2,g3,g4⟩:=h4
   exact⟨g,y,e,hz g 2 (by decide) g1,g2,g3,fun k hk=>hz k 3 (by decide) (g4 k hk)⟩
 ·by_cases di:a≤k∧k<b
  ·omega
  ·have hk:(if a≤k∧k<b then 1 else col k)≠0:=hk
   rw[if_neg di]at hk;exact h5 k hk
 ·obtain⟨A,n,c,xs,e,k1,k2,k3,k4⟩:=h6
  exact⟨A,n,c,xs,e,k1,k2,fun g hg=>hz g 4 (by decide) (k3 g hg),k4.mono fun k _ e=>hz k 5 (by decide) e⟩
 ·obtain⟨A,n,c,e,k1,k2⟩:=h7
  exact⟨A,n,c,e,k1,fun g hg=>hz g 6 (by decide) (k2 g hg)⟩
theorem Dm.chg {v:SV}(h:Dm w col p v s)(c:Cm):
 C6 p w col { s with now:=some (c,[]) } ((w.alloc (.cells (Pe c++#[nl]) 166)).setCell ⟨p,47,none⟩ (some w.heap.size)):=by
 have hx:=An.alloc w (.cells (Pe c++#[nl]) 166);have hb:=Aq.new w 166 (Pe c++#[nl]);obtain⟨gz,GR⟩:=h.grow hx 2;have hq:Go.Proofs.YtkaefdmhlmlhbaaGreat.grow col w.heap.size (w.alloc (.cells (Pe c++#[nl]) 166)).heap.size 2 w.heap.size=2:=Jy (Nat.le_refl _) hb.lt;have ai:p≠w.heap.size:=fun e=>by have:=h.ses.blk.lt;omega
 generalize Go.Proofs.YtkaefdmhlmlhbaaGreat.grow col w.heap.size (w.alloc (.cells (Pe c++#[nl]) 166)).heap.size 2=col1 at*;generalize w.alloc (.cells (Pe c++#[nl]) 166)=W at*;have h7:=gz.ses.own;have cc:=(E5.start (An.refl W) gz.ses.blk).set 47 (.pointer (some ⟨w,0,none⟩));have hm:∀c,c≠7→∀k,k<W.heap.size→k=p→col1 k≠c:=fun c hc k _ e=>by rw[e,h7];exact fun e=>hc e.symm
 exact⟨col1,{ v with now:=some ⟨w,0,none⟩ },⟨⟨cc.to (by kernel_rfl),h7,(gz.old cc.alt).imp fun _ h=>⟨h.1,h.2,h.3,h.4,h.5,h.6,h.7,h.8⟩,
  ⟨w,nl,rfl,hq,cc.alt.blk hb (fun e=>ai e.symm),Bl.nil _ _,fun g hg=>by cases hg⟩,fun k hk=>Nat.lt_of_lt_of_le (gz.ses.dom k hk) cc.alt.size⟩,
  gz.told.turn cc.alt (fun k h1 h2=>⟨hm 4 (by decide) k h1 h2,hm 5 (by decide) k h1 h2⟩) fun _ _=>rfl,gz.vis.turn cc.alt (hm 6 (by decide)) fun _ _=>rfl⟩,GR.trans ⟨cc.alt.mono fun k _ e=>by rw[e,h7];decide,fun _ _ h=>h,fun _ _ h=>h⟩⟩
noncomputable def Fe (s:PS)(c:Cm):PS:=if Vk c.op c.verb then { Pl s with now:=some (c,[]) }else s
def Gl (s:PS)(d:Dn):PS:={ s with tx:=d.tx,at_:=d.at_,mode:=d.md,rl:=d.rl,fk:=d.fk,fa:=d.fa }
def L3 (s:PS):PS:=if s.mode=0 then { s with last:=s.now.or s.last,now:=none }else s
noncomputable def Hq (s:PS)(c:Cm)(d:Dn):PS:=L3 (Gl (Fe s c) d)
def xW (o:Option Dn)(b:Nat)(vs:Array Value)(er:Int)(w:World):Prop:=
 vs.size=33∧vs.all (·.oneCell')=true∧((er=0∧∃d B q k r e,o=some d∧vs=qY B q k r e d∧Qu w b B q k r d)∨(er≠0∧o=none))
theorem DoR.v {o:Option Dn}(h:DoR o b vs er w)(hb:b'≤b):xW o b' vs er w:=by
 rcases h with⟨h0,d,ed,h1,h2⟩|⟨h0,h1,h2⟩
 ·obtain⟨B,q,k,r,e,e1,e2,e3⟩:=yS h2
  exact⟨h2.size,e3,.inl ⟨h0,d,B,q,k,r,e,h1,e1,e2.lower hb⟩⟩
 ·exact⟨by rw[h2];rfl,by rw[h2];exact Ss,.inr ⟨h0,h1⟩⟩
theorem xW.ext {o:Option Dn}(h:xW o b vs er w)(he:An w w'):xW o b vs er w':=
 ⟨h.1,h.2.1,h.2.2.imp (fun⟨h0,d,B,q,k,r,e,h1,h2,h3⟩=>⟨h0,d,B,q,k,r,e,h1,h2,h3.ext he⟩) id⟩
theorem xW.row {o:Option Dn}{b g t:Nat}(h:xW o b vs er w)(hb:Aq w g t cs)(ht:t≠3)(us:Array Value):xW o b vs er (w.setRow g us):=
 ⟨h.1,h.2.1,h.2.2.imp (fun⟨h0,d,B,q,k,r,e,h1,h2,h3⟩=>⟨h0,d,B,q,k,r,e,h1,h2,h3.row hb ht us⟩) id⟩
theorem gZ (h:vs.size=cs.size):L0 cs 0 vs=vs:=by
 refine Array.ext_getElem? fun i=>?_
 rw[D6 (by omega),if_neg (Nat.not_lt_zero i)]
 split
 ·rfl
 ·rw[Tg (by omega),Tg (by omega)]
theorem Qk (r:Nat→Value)(i:Nat)(hi:i<27):(Mz r)[i]? = some (r i):=by
 exact I5
theorem hU (h:s.now=none):L3 s=s:=by
 unfold L3;split
 ·cases s;simp only at h;subst h;rfl
 ·rfl
theorem zD (h:∀j,j<27→Bl w b (r j) (rl j)):(Mz r).all (·.oneCell')=true:=
 Lp.one (w:=w) (rs:=rl) ⟨rfl,fun i hi=>⟨r i,Qk r i hi,(h i hi).sl⟩⟩
theorem Wg {g t g':Nat}(h:Aq w g t cs)(ai:g'≠g)(i:Nat)(a:Value):Aq (w.setCell ⟨g',i,none⟩ a) g t cs:=Bn h ai i a
theorem J2j {w x:World}{t:TypeId}(_:An w (x.alloc (.cells cs t))):∃g,g=x.heap.size∧Aq (x.alloc (.cells cs t)) g t cs:=⟨_,rfl,Aq.new x t cs⟩
theorem J4w {w W2 W4:World}{col col4:Nat→Nat}{p g5:Nat}{v v4:SV}{s s4:PS}{e:Value}{d:Dn}(h:Dm w col p v s)(he:An w W2)(hb:Aq W2 g5 77 (qY B q k r e d))(hg:w.heap.size≤g5)
 (hd:Qu W2 w.heap.size B q k r d) (hm:Dm W4 col4 p v4 s4) (ht:Km W2 col W4 col4):
 Aq W4 g5 77 (qY B q k r e d)∧p≠g5∧∃col5,Dm W4 col5 p v4 s4∧Km w col W4 col5∧Jd (fun k=>col5 k=1) W4 fun x=>Qu x 0 B q k r d:=by
 have hz:∀k,w.heap.size≤k→col k=0:=fun k hk=>h.ses.lt hk
 have vn:∀k,w.heap.size≤k→k<W2.heap.size→col4 k=0:=fun k h1 h2=>Decidable.byContradiction fun hn=>ht.2 k h2 hn (hz k h1)
 have SW:=h.ses.blk.lt;refine⟨ht.1.blk hb fun hn=>hn.1 (hz _ hg),by omega,_,hm.paint (a:=w.heap.size) (b:=W2.heap.size) vn ht.1.size,⟨?_,fun k hk hn=>?_,fun k hk e=>(if_neg (by omega)).trans (ht.3 k (Bo hk he.hsize) e)⟩,fun M w' ha hk=>?_⟩
 ·exact(he.alt _).trans ht.1 fun _ _ h=>h
 ·have hn:(if w.heap.size≤k∧k<W2.heap.size then 1 else col4 k)≠0:=hn
  rw[if_neg (by omega)]at hn
  exact ht.2 k (Bo hk he.hsize) hn
 ·refine(hd.win fun k h1 h2=>?_).lower (B8 _)
  have h4:=Bo h2 ht.1.size;exact(ha.block k h4 (hk k h4 (if_pos ⟨h1,h2⟩))).trans (ht.1.block k h2 fun hn=>hn.1 (hz k h1))
theorem fR {v:SV}(h:Dm w col p v s)(wl:∀x∈s.tx,(Lit.int .i64 x).wf=true)(hl:s.tx.length≤200)(hb:s.past.length≤30)(hq:s.told.length≤1000000000000)
 (hz:∀d,L2 s.tx s.rl s.at_ s.fk s.fa c=some d→d.tx.length≤4096):
 Calls prog 91 #[.pointer (some ⟨p,0,none⟩),.agg (Pe c)] w fun e w'=>
  (L2 s.tx s.rl s.at_ s.fk s.fa c=none∧e=.returned (.bool false)∧C6 p w col (Ec s) w')∨(∃d,L2 s.tx s.rl s.at_ s.fk s.fa c=some d∧e=.returned (.bool true)∧C6 p w col (Hq s c d) w'):=by
 have hx:=An.alloc w (.cells (Pe c) 62);have z9:=Aq.new w 62 (Pe c);have H:=A6 h;have ot:Hid (∀wq,An w wq→_):=A6 fun wq he=>Lf (h.ext he) hq
 have LP:Hid (∀wq,An w wq→_):=A6 fun wq he=>kS (h.ext he) hb
 have LR:Hid (∀wq,An w wq→Calls prog 34 #[.pointer (some ⟨p,0,none⟩)] wq fun e w'=>∃u,e=.returned u∧(∃A n c,u=.agg #[.slice A n c,s.at_]∧Ba w' wq.heap.size A n c s.tx)∧An wq w'):=
  A6 fun wq he=>Ve (h.ext he) (by omega)
 have JO:=h.ses.dat.here.regs.regs;have UV:Hid (∀wq A n k,An w wq→Ba wq 0 A n k s.tx→Calls prog 28 #[.agg #[.slice A n k,s.at_],.agg (Mz v.r),.agg #[s.fk,s.fa],.agg (Pe c)] wq fun e w'=>
  ∃u,e=.returned u∧(∃vs er,u=.tuple #[.agg vs,.int .i64 er]∧xW (L2 s.tx s.rl s.at_ s.fk s.fa c) w.heap.size vs er w')∧An wq w'):=
  A6 fun wq A n k he ho=>(J7c ho wl (JO.ext he)).mono fun e w' ⟨u,h1,⟨vs,er,h2,h3⟩,h4⟩=>⟨u,h1,⟨vs,er,h2,h3.v he.hsize⟩,h4⟩
 have HP:=A6 (fun wq (he:An w wq)=>h.ses.blk.ext he)
 have HZ:=A6 hz;have ae:=h.ses.blk.lt;clear h wl hl hb hq hz JO;go_enter func91,ntmps91
 go_upto_region 1 with fail
 generalize w.alloc (.cells (Pe c) 62)=Wa at*;have nz:Aq Wa.drew w.heap.size 62 (Pe c):=z9;have fj:=hx.to_drew;refine wp_region_held_drew (S:=fun w'=>An w w'∧Aq w' w.heap.size 62 (Pe c)) (by kernel_rfl) ⟨fj,nz⟩ (fun hS=>?_)
 clear z9 hx nz fj;refine Bf (i:=0) (v:=some p) rfl hS ?_
 refine Bf (i:=2) (v:=some p) rfl hS ?_
 refine Bf (i:=3) (v:=some p) rfl hS ?_
 refine Bf (i:=4) (v:=(.pointer (some ⟨p,3,none⟩))) rfl hS ?_
 refine Ga (i:=5) (v:=(.agg (Mz v.r))) rfl (fun w' ag=>by exact Dy 38 (.tmp 12) rfl p 3 27 rfl (HP.out _ ag.1) (by kernel_rfl) underlying38 rfl (by kernel_rfl)) hS ?_
 refine Bf (i:=6) (v:=some p) rfl hS ?_
 refine Bf (i:=7) (v:=some p) rfl hS ?_
 refine Bf (i:=8) (v:=(.pointer (some ⟨p,30,none⟩))) rfl hS ?_
 refine Ga (i:=9) (v:=(.agg #[s.fk,s.fa])) rfl (fun w' ag=>by exact Dy 36 (.tmp 16) rfl p 30 2 rfl (HP.out _ ag.1) (by kernel_rfl) underlying36 rfl (by kernel_rfl)) hS ?_
 refine Ga (i:=10) (v:=(.agg (Pe c))) rfl (fun w' ag=>by exact Dy 62 (.tmp 3) rfl w.heap.size 0 5 rfl ag.2 (by kernel_rfl) underlying62 rfl (by kernel_rfl)) hS ?_
 generalize Wa.drew=cur at*
 iterate 3
  all_goals (first|refine wpAnyH_ready (rs:=[1,15]) (by decide +kernel) (by simp) (Ai rfl (fun K hK=>?_) (Ai rfl (fun K hK=>?_) Am))|refine wpAnyH_ready (rs:=[11,15]) (by decide +kernel) (by simp) (Ai rfl (fun K hK=>?_) (Ai rfl (fun K hK=>?_) Am))|refine wpAnyH_ready (rs:=[1]) (by decide +kernel) (by simp) (Ai rfl (fun K hK=>?_) Am)|refine wpAnyH_ready (rs:=[11]) (by decide +kernel) (by simp) (Ai rfl (fun K hK=>?_) Am)|refine wpAnyH_ready (rs:=[15]) (by decide +kernel) (by simp) (Ai rfl (fun K hK=>?_) Am))
  all_goals (first
   |(
    refine Cl rfl 28 #[.agg #[.slice A n k,s.at_],.agg (Mz v.r),.agg #[s.fk,s.fa],.agg (Pe c)] rfl (by kernel_rfl) (fun u w'=>∃vs er,u=.tuple #[.agg vs,.int .i64 er]∧xW (L2 s.tx s.rl s.at_ s.fk s.fa c) w.heap.size vs er w') (UV.out _ A n k hS.1 i9) ?_
    rintro u w3 ⟨vs,er,rfl,hR⟩ hE;refine hK.out _ _ ⟨hS.1.trans hE,hS.2.ext hE⟩ (fun ao=>?_)
    clear hK K i9
    try replace cg:=Aq.ext cg hE
    replace hS:=ao;clear ao hE
    try simp only[Ac,Aa,Ab,Ao,A7,Ad,Ae]
    refine Bf (i:=12) (v:=.tuple #[.agg vs,.int .i64 er]) rfl hS ?_
    refine Bf (i:=13) (v:=.agg vs) rfl hS ?_
    refine wpAnyH_take (i:=14) (v:=.int .i64 er) rfl (by kernel_rfl) (by kernel_rfl) (by kernel_rfl) (fun _ _ _ h=>h) (Or.inl ⟨by rfl,by(intro w' ag;go_simp)⟩) hS ?_
    try simp only[Ac,Aa,Ab,Ao,A7,Ad,Ae])
   |(
    refine Cl rfl 34 #[.pointer (some ⟨p,0,none⟩)] rfl (by kernel_rfl) (fun u w'=>∃A n k,u=.agg #[.slice A n k,s.at_]∧Ba w' (World.heap _).size A n k s.tx) (LR.out _ hS.1) ?_
    rintro u w2 ⟨A,n,k,rfl,i9⟩ hE;refine hK.out _ _ ⟨hS.1.trans hE,hS.2.ext hE⟩ (fun ao=>?_)
    clear hK K;replace i9:Ba _ 0 A n k s.tx:=Bd.lower i9 (B8 _)
    try replace cg:=Aq.ext cg hE
    replace hS:=ao;clear ao hE
    try simp only[Ac,Aa,Ab,Ao,A7,Ad,Ae])
   |(
    go_simp
    refine hK.out _ _ ⟨hS.1.to_alloc (.cells Gq 77),hS.2.ext (An.alloc _ _)⟩ (fun ao=>?_)
    clear hK K;have hE:=Ms ao.1
    try replace i9:=Ba.ext i9 hE
    try replace hR:=hR.ext hE
    obtain⟨g5,sm,cg⟩:=J2j ao.1;have mu:=hS.1.hsize;rw[←sm]at mu ⊢;clear sm;replace hS:=ao;clear ao hE;generalize World.alloc _ _=nx at*
    try simp only[Ac,Aa,Ab,Ao,A7,Ad,Ae]))
 all_goals
  have dl:=hR.1;have hon:=hR.2.1;refine wpAnyH_ready (rs:=[16]) (by decide +kernel) (by simp) (Ai rfl (fun K hK=>?_) Am)
  refine Ca rfl 77 (.tmp 5) (.tmp 20) rfl _ 0 vs rfl rfl 77 Gq cg (by rw[dl];kernel_rfl) (by rw[dl];decide) hon ?_
  rw[gZ (show vs.size=Gq.size from dl)]
  have wi:=hR.row cg (by decide) vs
  have ly:=cg.setRow vs;have xq:(_:Nat)≠w.heap.size:=G7 cg hS.2 (by decide)
  have ao:_∧_:=⟨hS.1.setRow mu vs,hS.2.setRow_other vs (fun e=>xq e.symm)⟩
  refine hK.out _ _ ao (fun hS=>?_)
  clear hK K ao cg hR;generalize World.setRow _ _ _=W1 at*
  try simp only[Ac,Aa,Ab,Ao,A7,Ad,Ae]
  refine wpAnyH_ready (rs:=[17]) (by decide +kernel) (by simp) (Ai rfl (fun K hK=>?_) Am)
  go_simp
  refine hK.out _ _ hS (fun _=>?_)
  clear hK K;refine wpAnyH_done (by kernel_rfl) ?_ _
  rcases wi.2.2 with⟨rfl,d,B,q,k,r,e,hd,rfl,YE⟩|⟨ey,hd⟩
  ·have cm:(Mz r).all (·.oneCell')=true:=by
    have h9:=YE.regs;exact zD h9
   have HW:=A6 hS.1;have HC:=A6 hS.2;have mp:=A6 ly;have HD:=A6 hd;have UU:=A6 YE;have HZ5:=A6 mu;have e0:W1.cell? ⟨w,0,none⟩=some (.int .i64 c.count):=hS.2.cell 0;have e1:W1.cell? ⟨w,1,none⟩=some (.int .i64 c.reg):=hS.2.cell 1;have e2:W1.cell? ⟨w,2,none⟩=some (.int .i64 c.op):=hS.2.cell 2;have e3:W1.cell? ⟨w,3,none⟩=some (.int .i64 c.verb):=hS.2.cell 3;have e4:W1.cell? ⟨w,4,none⟩=some (.int .i64 c.arg):=hS.2.cell 4;clear ly wi hd hS YE mu dl hon xq;go_wp2_with fail
   refine(jQ W1 c.count c.reg c.op c.verb c.arg).mono ?_
   rintro e' W2 ⟨rfl,au⟩;have pu:=A6 au;clear e0 e1 e2 e3 e4 au;by_cases nz:Vk c.op c.verb=true
   ·have N0:=trivial;exact K0
   ·have N1:=trivial;exact K0
  ·have YA:(er !=0)=true:=by simpa using ey
   have YB:=A6 (ot.out _ hS.1);have HT:=A6 (show Km w col W1 col from⟨hS.1.alt _,fun _ _ h=>h,fun _ _ h=>h⟩)
   have HD:=A6 hd;clear ly wi ey hd hS;go_wp2_with fail
   refine YB.out.mono ?_
   rintro e w6 ⟨rfl,hm⟩;have zg:=A6 (C6.trans HT.out hm);clear hm;go_wp2_with fail
   go_ret
   exact .inl ⟨HD.out,rfl,zg.out⟩
structure xO (K T:Nat)(s:PS):Prop where
 line:xP s
 mode:s.mode=1∨s.mode=2
 keys:KOk K s
 told:s.told.length≤T
theorem xO.typed {K T:Nat}(h:xO K T s)(hk:key≠27):xO (K+1) (T+1) (Cn s key):=by
 obtain⟨⟨h1,h2,h3⟩,h4,h5,h6⟩:=h;unfold Cn;rw[if_neg hk];cases he:Gy s.mode s.tx s.at_.toNat key with
 |none=>exact⟨⟨h1,h2,h3⟩,h4,fun x hx=>Nat.le_succ_of_le (h5 x hx),by show(s.told++[_]).length≤_;simp;omega⟩
 |some r=>
  obtain⟨m,b⟩:=r;have hb:=Wt he h1 (by omega)
  refine⟨⟨hb.1,Int.natCast_nonneg b,by show(b:Int)≤(m.length:Int);omega⟩,h4,fun x hx=>?_,Nat.le_succ_of_le h6⟩
  have hx:s.now.map (fun x=>(x.1,x.2++[key]))=some x:=hx
  cases hn:s.now with
  |none=>rw[hn]at hx;cases hx
  |some y=>
   rw[hn]at hx;injection hx with hx;rw[←hx];have:=h5 y hn;simp;omega
def keysF (s:PS)(ks:List Int):PS:=ks.foldl Cn s
theorem oP (s:PS)(ks:List Int)(k:Int):keysF s (ks++[k])=Cn (keysF s ks) k:=by
 unfold keysF;rw[List.foldl_append]
 rfl
theorem xO.keysF {K T:Nat}(h:xO K T s):∀{ks:List Int},(∀k∈ks,k≠27)→xO (K+ks.length) (T+ks.length) (keysF s ks):=by
 intro ks
 induction ks generalizing s K T with
 |nil=>exact fun _=>h
 |cons k ks ih=>
  intro hk;have h1:=ih (h.typed (hk k List.mem_cons_self)) (fun x hx=>hk x (List.mem_cons_of_mem _ hx))
  have e:Go.Proofs.YtkaefdmhlmlhbaaGreat.keysF s (k::ks)=Go.Proofs.YtkaefdmhlmlhbaaGreat.keysF (Cn s k) ks:=rfl;exact I72
def Cf (c:Cm)(n:Int):Cm:=if 0<n then { c with count:=n }else c
noncomputable def Dv (s:PS)(n:Int):PS:=
 match s.last with
 |none=>Ec s
 |some (c,ks)=>
  match L2 s.tx s.rl s.at_ s.fk s.fa (Cf c n)with
  |none=>Ec s
  |some d=>if(Hq s (Cf c n) d).mode=0 then Hq s (Cf c n) d else Cn (keysF (Hq s (Cf c n) d) ks) 27
theorem Jd.chg_own {F:Nat→Prop}{q m k:Nat}{ks:List Int}(h:Jd F w fun x=>Ys x (some ⟨q,0,none⟩) (some (c,ks)))(hb:Aq w q 166 (Pe c++#[.slice A m k]))(ho:Ba w 0 A m k ks)(hm:0<m):
 ∀g,(Ak A m k).ownBlock=some g→F g:=by
 intro g hg;refine Classical.byContradiction fun hn=>?_
 have o6:=ho;obtain⟨_,⟨_,h0⟩|⟨g',cap,cur,hv,_,YF,_⟩⟩:=o6
 ·omega
 ·rw[hv]at hg
  have hg:some g'=some g:=hg;injection hg with hg;subst hg;have hA:=Gw.row (t:=3) YF (by decide) #[]
  obtain⟨q',y',e',og,vk⟩:=h _ _ hA (fun k _ hF e=>hn (e▸hF))
  injection e' with e';subst e';have ai:q≠g':=G7 hb (show Aq w g' 3 _ from YF) (by decide)
  have hl:=congrArg Array.toList ((hb.setRow_other #[] ai).inj og).2;have hy:Ak A m k=y':=by simpa[Pe]using hl
  obtain⟨A2,n2,c2,e2,je,_⟩:=vk;rw[←hy,hv]at e2;rw[hv]at hy;obtain⟨h1,⟨h3,h0⟩|⟨g2,cap2,cur2,rf,_,YG,_,_,_,ht⟩⟩:=je
  ·rw[←e2]at h3
   cases h3
  ·rw[←e2]at rf
   injection rf with pq kw fo;injection pq with pq;injection pq with pq;subst pq;have hz:=((show Aq w g' 3 _ from YF).setRow #[]).inj (show Aq _ g' 3 _ from YG)
   rw[←hz.2]at ht;have xl:=ho.ints.len;simp at ht;have:ks=[]:=by simpa using ht.symm
   rw[this]at xl;simp at xl;omega
theorem nG {v:SV}{n:Int}(h:Dm w col p v s)(wl:∀x∈s.tx,(Lit.int .i64 x).wf=true)(hl:s.tx.length≤200)(hb:s.past.length≤30)(hq:s.told.length≤500000000000)
 (hz:∀c d,L2 s.tx s.rl s.at_ s.fk s.fa c=some d→d.tx.length≤4096)
 (hD:∀c ks d,s.last=some (c,ks)→L2 s.tx s.rl s.at_ s.fk s.fa (Cf c n)=some d→(Hq s (Cf c n) d).mode≠0→xO K 500000000000 (Hq s (Cf c n) d)) (xl:∀c ks,s.last=some (c,ks)→(∀k∈ks,k≠27)∧ks.length≤2000000) (hK:K≤2000000):
 Calls prog 94 #[.pointer (some ⟨p,0,none⟩),.int .i64 n] w fun e w'=>e=.returned (.tuple #[])∧C6 p w col (Dv s n) w':=by
 have hd:=h.ses.dat.here;have d46:w.cell? ⟨p,46,none⟩=some (.pointer v.last):=h.ses.blk.cell 46;have hc:=hd.last;rcases hv:v.last with _|a<;>rcases hs:s.last with _|⟨c,ks⟩<;>rw[hv,hs]at hc
 ·rw[hv]at d46
  have HB:=A6 (Lf h (by omega))
  have HF:Hid (Dv s n=Ec s):=A6 (by unfold Dv;rw[hs])
  clear h wl hl hb hq hz hD xl hd hc;go_enter func94,ntmps94
  go_wp2_with fail
  refine HB.out.mono ?_
  rintro e w1 ⟨rfl,h1⟩;have H1:=A6 h1;clear h1;exact I99
 ·exact hc.elim
 ·exact hc.elim
 ·obtain⟨q,y,rfl,vu,hy⟩:=hc
  obtain⟨A,m,k,rfl,KE,hyn⟩:=hy;rw[hv]at d46;have e0:w.cell? ⟨q,0,none⟩=some (.int .i64 c.count):=vu.cell 0;have e1:w.cell? ⟨q,1,none⟩=some (.int .i64 c.reg):=vu.cell 1;have e2:w.cell? ⟨q,2,none⟩=some (.int .i64 c.op):=vu.cell 2;have e3:w.cell? ⟨q,3,none⟩=some (.int .i64 c.verb):=vu.cell 3;have e4:w.cell? ⟨q,4,none⟩=some (.int .i64 c.arg):=vu.cell 4;have e5:w.cell? ⟨q,5,none⟩=some (.slice A m k):=vu.cell 5;have YH:=vu.lt;have hlp:=h.ses.blk.lt;have B4:=Aq.new w 166 #[.int .i64 c.count,.int .i64 c.reg,.int .i64 c.op,.int .i64 c.verb,.int .i64 c.arg,.slice A m k];have X4:=An.alloc w (.cells #[c.count,c.reg,c.op,c.verb,c.arg,.slice A m k] 166);have hdc:Jd (fun k=>col k=1) w fun x=>Ys x (some ⟨q,0,none⟩) (some (c,ks)):=h.ses.dat.imp fun x hx=>by have:=hx.last;rw[hv,hs]at this;exact this
  have SP:Jd (fun k=>col k=1) w fun x=>Bj x A m k ks:=by
   rcases Nat.eq_zero_or_pos m with rfl|hm
   ·have il:ks=[]:=List.eq_nil_of_length_eq_zero KE.ints.len
    subst il;exact fun _ _ _ _=>⟨rfl,Nat.zero_le _,KE.ints.nmax,fun hh=>absurd hh (Nat.lt_irrefl 0)⟩
   ·exact(Jd.own KE (hdc.chg_own vu KE hm)).imp fun x hx=>Ba.ints hx
  have HDI:=A6 SP;clear hdc SP;have H:=A6 h;have HS:=A6 hs;have HWL:=A6 wl;have HL:=A6 hl;have vo:=A6 hb;have HQ:=A6 hq;have HZ:=A6 hz;have HD:=A6 hD;have LW:=A6 (xl c ks hs);have HYO:=A6 KE;clear h wl hl hb hq hz hD xl hd hs vu KE;go_enter func94,ntmps94
  go_upto_region 3 with fail
  generalize w.alloc (.cells #[c.count,c.reg,c.op,c.verb,c.arg,.slice A m k] 166)=W4 at*;clear e0 e1 e2 e3 e4 e5 d46;have e0:W4.cell? ⟨w,0,none⟩=some (.int .i64 c.count):=B4.cell 0;have e1:W4.cell? ⟨w,1,none⟩=some (.int .i64 c.reg):=B4.cell 1;have e2:W4.cell? ⟨w,2,none⟩=some (.int .i64 c.op):=B4.cell 2;have e3:W4.cell? ⟨w,3,none⟩=some (.int .i64 c.verb):=B4.cell 3;have e4:W4.cell? ⟨w,4,none⟩=some (.int .i64 c.arg):=B4.cell 4;have vn:=X4.hsize;have B5:=Aq.new W4 62 (Pe c);have X5:=An.alloc W4 (.cells (Pe c) 62);unfold Pe at B5 X5;have JJ:=B4.ext X5;have FP:=X4.trans X5;clear X4 X5 B4;go_upto_region 4 with fail
  generalize W4.alloc (.cells #[c.count,c.reg,c.op,c.verb,c.arg] 62)=W5 at*;clear e0 e1 e2 e3 e4;have fin:∀W6,An w W6→Aq W6 W4.heap.size 62 (Pe (Cf c n))→Aq W6 w.heap.size 166 #[.int .i64 c.count,.int .i64 c.reg,.int .i64 c.op,.int .i64 c.verb,.int .i64 c.arg,.slice A m k]→True:=fun _ _ _ _=>trivial
  clear fin;by_cases jx:0<n
  ·have N0:=trivial;exact K4
  ·have N1:=trivial;exact K4
open Classical in
/-- moved, behind what the history answered. -/
theorem Nl {w0 w:World}{v:SV}{ok:Prop}{hi':Hi}{line:List Int}{e:Ending}(h:Dm w0 col p v s)(he:An w0 w)(hq:s.told.length≤1000000000000)(ab:ok→line.length≤4096)
 (hg:(ok∧∃u L m z,e=.returned (.tuple #[u,.slice L m z,(0:Int)])∧Dp w w0.heap.size u hi'∧Ba w w0.heap.size L m z line)∨(¬ok∧∃x:Int,e=.returned (.tuple #[.agg Eb,(),.int .i64 x])∧x≠0)):
 ∃U L m z x,e=.returned (.tuple #[U,.slice L m z,.int .i64 x])∧
  Calls prog 80 #[.pointer (some ⟨p,0,none⟩),U,.slice L m z,.int .i64 x] w fun e' w'=>e'=.returned (.tuple #[])∧C6 p w0 col (if ok then Ps s hi' line else Ec s) w':=by
 rcases hg with⟨cw,u,L,m,z,rfl,hO,hI⟩|⟨du,x,rfl,hx⟩
 ·obtain⟨A,n,c,S,sn,sc,P,pn,pc,rfl⟩:=hO.form
  refine⟨_,L,m,z,0,rfl,?_⟩
  rw[if_pos cw];exact uL h he hO hI (by rw[←hI.ints.len];exact ab cw)
 ·refine⟨_,none,0,0,x,rfl,?_⟩
  rw[if_neg du];refine(uM (h.ext he) hx hq).mono fun e' w' ⟨h1,h2⟩=>⟨h1,?_⟩
  exact C6.trans ⟨he.alt _,fun _ _ h=>h,fun _ _ h=>h⟩ h2
noncomputable def doS (s:PS)(c:Cm):PS:=match L2 s.tx s.rl s.at_ s.fk s.fa c with|none=>Ec s|some d=>Hq s c d
open Classical in
noncomputable def lV (s:PS)(k:Int):PS:=if Gh s.hi s.tx k∧(Fv k:Int)≤s.hi.at_ then Ps s (toH s.hi s.tx (s.hi.at_.toNat-Fv k)) (toL s.hi s.tx (s.hi.at_.toNat-Fv k))else Ec s
open Classical in
noncomputable def Nc (s:PS)(k:Int):PS:=if Gh s.hi s.tx k∧(Fv k:Int)+s.hi.at_≤(s.hi.lines.length:Int)then Ps s (toH s.hi s.tx (s.hi.at_.toNat+Fv k)) (toL s.hi s.tx (s.hi.at_.toNat+Fv k))else Ec s
open Classical in
noncomputable def Na (s:PS)(k:Int):PS:=if Gh s.hi s.tx k∧k≤(s.hi.lines.length:Int)∧0<s.hi.lines.length then Ps s (toH s.hi s.tx (Ru k)) (toL s.hi s.tx (Ru k))else Ec s
open Classical in
noncomputable def Fs (s:PS)(pat:List Int)(older keep:Bool):PS:=
 if h:∃k,Y7 s.hi s.tx pat older k∧k<s.hi.lines.length then Ps s (findH s.hi s.tx pat keep h.choose) (toL s.hi s.tx h.choose)else Ec s
def mB (s:PS)(older:Bool):PS:={ s with mode:=3,ask:=[],older:=older }
noncomputable def Di (s:PS)(c:Cm):PS:=
 if c.op≠0 then doS s c
 else if c.verb=117 then Gm s
 else if c.verb=85 then J4 s
 else if c.verb=46 then Dv s c.count
 else if c.verb=107 then lV s c.count
 else if c.verb=106 then Nc s c.count
 else if c.verb=71 then Na s c.count
 else if c.verb=110∨c.verb=78 then Fs s [] (s.hi.older !=(c.verb==78)) s.hi.older
 else if c.verb=47∨c.verb=63 then mB s (c.verb==47)
 else doS s c
theorem Kp {P:Program}{ops:Array Oper}{o:Oper}{a:Act}{K:Act→World→Prop}{Q:Exit→Act→World→Prop}{E:Prop}{ars:Array Operand}{tys:Array TypeId}(dn:o.guard=none)
 (f:FuncId) (args:Array Value) (ho:o.op=.call { callee:=.value (.func f),args:=ars,argTypes:=tys }) (de:(execOp a.eval o).run P w=.ok (.enter f args) w) (R:Value→World→Prop)
 (hc:Calls P f args w fun e w'=>∃v,e=.returned v∧R v w') (h:∀v w',R v w'→K (a.put o.dst v) w'):if Bu o (yielded ops a.tmps)=true then Oper.wp P o a w K Q else E:=by
 have hw:Bu o (yielded ops a.tmps)=true:=by simp[Bu,dn]
 rw[if_pos hw];exact I17
theorem J5e {v:SV}(h:Dm w col p v s)(hl:s.tx.length≤200)(hq:s.told.length≤1000000000000)
 (ab:(toL s.hi s.tx (s.hi.at_.toNat-Fv k1)).length≤4096):
 Calls prog 66 #[.pointer (some ⟨p,0,none⟩),.agg #[k1,k2,(0:Int),(107:Int),k5]] w fun e w'=>e=.returned (.tuple #[])∧C6 p w col (lV s k1) w':=by
 have N0:=trivial;exact K13
theorem wR {v:SV}(h:Dm w col p v s)(hl:s.tx.length≤200)(hq:s.told.length≤1000000000000)
 (ab:(toL s.hi s.tx (s.hi.at_.toNat+Fv k1)).length≤4096):
 Calls prog 66 #[.pointer (some ⟨p,0,none⟩),.agg #[k1,k2,(0:Int),(106:Int),k5]] w fun e w'=>e=.returned (.tuple #[])∧C6 p w col (Nc s k1) w':=by
 have N1:=trivial;exact K13
theorem wQ {v:SV}(h:Dm w col p v s)(hl:s.tx.length≤200)(hq:s.told.length≤1000000000000)
 (ab:(toL s.hi s.tx (Ru k1)).length≤4096):
 Calls prog 66 #[.pointer (some ⟨p,0,none⟩),.agg #[k1,k2,(0:Int),(71:Int),k5]] w fun e w'=>e=.returned (.tuple #[])∧C6 p w col (Na s k1) w':=by
 have N2:=trivial;exact K13
open Classical in
/-- moved, behind what was looked for in the history. -/
theorem Rn {w0 w:World}{v:SV}{pat:List Int}{older keep:Bool}{e:Ending}(h:Dm w0 col p v s)(he:An w0 w)(hq:s.told.length≤1000000000000)(ab:∀k,k<s.hi.lines.length→(toL s.hi s.tx k).length≤4096)
 (hg:(∃k,Y7 s.hi s.tx pat older k∧k<s.hi.lines.length∧∃u L m z,e=.returned (.tuple #[u,.slice L m z,(0:Int)])∧Dp w w0.heap.size u (findH s.hi s.tx pat keep k)∧Ba w w0.heap.size L m z (toL s.hi s.tx k))∨((∀k,¬Y7 s.hi s.tx pat older k)∧∃x:Int,e=.returned (.tuple #[.agg Eb,(),.int .i64 x])∧x≠0)):
 ∃U L m z x,e=.returned (.tuple #[U,.slice L m z,.int .i64 x])∧
  Calls prog 80 #[.pointer (some ⟨p,0,none⟩),U,.slice L m z,.int .i64 x] w fun e' w'=>e'=.returned (.tuple #[])∧C6 p w0 col (Fs s pat older keep) w':=by
 rcases hg with⟨k,hk,pz,u,L,m,z,rfl,hO,hI⟩|⟨du,x,rfl,hx⟩
 ·have wj:∃k,Y7 s.hi s.tx pat older k∧k<s.hi.lines.length:=⟨k,hk,pz⟩
  have YA:wj.choose=k:=by
   have h1:=wj.choose_spec.1.2.2.2;rw[hk.2.2.2]at h1;injection h1 with h1;exact h1.symm
  have hS:Fs s pat older keep=Ps s (findH s.hi s.tx pat keep k) (toL s.hi s.tx k):=by
   unfold Fs;rw[dif_pos wj,YA]
  rw[hS];obtain⟨U,L',m',z',x,e',hc⟩:=Nl (ok:=True) (hi':=findH s.hi s.tx pat keep k) (line:=toL s.hi s.tx k) h he hq (fun _=>ab k pz) (Or.inl ⟨trivial,u,L,m,z,rfl,hO,hI⟩)
  rw[if_pos trivial]at hc;exact⟨U,L',m',z',x,e',hc⟩
 ·have hS:Fs s pat older keep=Ec s:=by
   unfold Fs;rw[dif_neg fun⟨k,hk,_⟩=>du k hk]
  rw[hS];obtain⟨U,L',m',z',x',e',hc⟩:=Nl (ok:=False) (hi':=s.hi) (line:=[]) h he hq nofun (Or.inr ⟨id,x,rfl,hx⟩);rw[if_neg id]at hc;exact⟨U,L',m',z',x',e',hc⟩
theorem wP {v:SV}(h:Dm w col p v s)(hl:s.tx.length≤200)(hq:s.told.length≤1000000000000)
 (ab:∀k,k<s.hi.lines.length→(toL s.hi s.tx k).length≤4096):
 Calls prog 66 #[.pointer (some ⟨p,0,none⟩),.agg #[k1,k2,(0:Int),(110:Int),k5]] w fun e w'=>e=.returned (.tuple #[])∧C6 p w col (Fs s [] (s.hi.older !=false) s.hi.older) w':=by
 have N3:=trivial;exact K13
theorem wO {v:SV}(h:Dm w col p v s)(hl:s.tx.length≤200)(hq:s.told.length≤1000000000000)
 (ab:∀k,k<s.hi.lines.length→(toL s.hi s.tx k).length≤4096):
 Calls prog 66 #[.pointer (some ⟨p,0,none⟩),.agg #[k1,k2,(0:Int),(78:Int),k5]] w fun e w'=>e=.returned (.tuple #[])∧C6 p w col (Fs s [] (s.hi.older !=true) s.hi.older) w':=by
 have N4:=trivial;exact K13
section
variable {P:Program} {ops:Array Oper} {Q:Exit→Act→World→Prop} {md:Region.Mode} {S:World→Prop} {f:Nat}
def Gs (P:Program)(md:Region.Mode)(ops:Array Oper)(Q:Exit→Act→World→Prop)(S:World→Prop)(f:Nat):Nat→Array Bool→Act→World→Prop
 |0,listed,a,w=>Jv md ops listed=[]∧Q .normal a w
 |fuel+1,listed,a,w=>(Jv md ops listed=[]→Q .normal a w)∧
  ∀i∈Jv md ops listed,wpOp P ops Q i (fun a' w'=>((listed.setIfInBounds i true).getD f true=false→S w')∧Gs P md ops Q S f fuel (listed.setIfInBounds i true) a' w') a w
theorem Gs.any:∀(fuel:Nat) (listed:Array Bool) (a:Act) (w:World),Gs P md ops Q S f fuel listed a w→wpAny P md ops Q fuel listed a w
 |0,_,_,_,h=>h
 |fuel+1,_,_,_,h=>⟨h.1,fun i hi=>wpOp_mono (fun a' w' h'=>Gs.any fuel _ a' w' h'.2) (h.2 i hi)⟩
def Mk (md:Region.Mode)(ops:Array Oper)(f i:Nat):Bool:=
 match ops[f]? with
 |some o=>o.after.toList.any fun e=>Region.binds md e&&e.on==i
 |none=>false
theorem gC {i:Nat}(h:Mk md ops f i=true):∃o,ops[f]? = some o∧∃e∈o.after,Region.binds md e=true∧e.on=i:=by
 unfold Mk at h;cases ho:ops[f]? with
 |none=>rw[ho]at h;cases h
 |some o=>
  rw[ho]at h;simp only[List.any_eq_true,Bool.and_eq_true,beq_iff_eq]at h;obtain⟨e,he,hb,hi⟩:=h;exact⟨o,rfl,e,by simpa using he,hb,hi⟩
theorem T7 {i:Nat}{oi:Oper}{v:Value}{T:World→Prop}(hi:ops[i]? = some oi)(NC:∀(j:Nat) (o:Oper) cs b,ops[j]? = some o→o.op≠.select cs b)
 (hQ:∀c a w,Q (.panic c) (a.put oi.dst v) w→Q (.panic c) a w) (ny:i≠f) (hc:(∀w,T w)∨((∀w,S w→T w)∧Mk md ops f i=true)):
 ∀(fuel:Nat) (listed:Array Bool) (a:Act) (w:World),
  (∀j oj,ops[j]? = some oj→j≠i→listed.getD j true=false→(∀e∈oj.after,Region.binds md e=true→e.on≠i)→oi.apart ops oj=true)→
  i∈Jv md ops listed→YieldsIf P ops T oi v a→T w→((∀w,T w)∨listed.getD f true=false)→(listed.getD f true=false→S w)→
  Gs P md ops Q S f fuel (listed.setIfInBounds i true) (a.put oi.dst v) w→Gs P md ops Q S f (fuel+1) listed a w:=by
 intro fuel
 induction fuel with
 |zero=>
  intro listed a w _ hr hy hT hl hS H;refine⟨fun h=>(by rw[h]at hr;cases hr),fun j hj=>?_⟩
  by_cases ig:j=i
  ·exact I116
  ·have:=ready_mono hj ig
   rw[H.1]at this;cases this
 |succ fuel ih=>
  intro listed a w DM hr hy hT hl hS H;refine⟨fun h=>(by rw[h]at hr;cases hr),fun j hj=>?_⟩
  by_cases ig:j=i
  ·exact I116
  ·have h1:=H.2 j (ready_mono hj ig)
   obtain⟨ND,oj,SD,ax⟩:=mem_ready.1 hj;have NE:∀e∈oj.after,Region.binds md e=true→e.on≠i:=fun e he hb heq=>by
    have h1:=ax e he hb;have h0:=(mem_ready.1 hr).1;rw[heq]at h1;rcases Nat.lt_or_ge i listed.size with h'|h'
    ·simp[h']at h0 h1;rw[h0]at h1;cases h1
    ·simp[Array.getElem?_eq_none h']at h1
   have h2:=wpOp_putIf SD (DM j oj SD ig ND NE) (fun cs b=>NC i oi cs b hi) (fun cs b=>NC j oj cs b SD) hQ hy h1
   have GO:∀k ok,ops[k]? = some ok→k≠i→(listed.setIfInBounds j true).getD k true=false→
    (∀e∈ok.after,Region.binds md e=true→e.on≠i)→oi.apart ops ok=true:=fun k ok hk JD hun du=>by
    refine DM k ok hk JD ?_ du
    by_cases qm:j=k
    ·subst qm;exact ND
    ·rw[getD_set_ne true qm]at hun;exact hun
   have eq:(∀w,T w)∨(listed.setIfInBounds j true).getD f true=false:=by
    rcases hc with h|⟨_,hw⟩
    ·exact .inl h
    ·rcases hl with h|h
     ·exact .inl h
     ·refine .inr ?_
      have l6:j≠f:=fun e=>by
       obtain⟨o,ho,e',he,hb,hi'⟩:=gC hw;rw[←e,SD]at ho;injection ho with ho;subst ho;exact NE e' he hb hi'
      rw[getD_set_ne true l6];exact h
   refine wpOp_mono (fun a' w' h3=>?_) h2
   obtain⟨vk,ao,WC⟩:=h3;have WD:(listed.setIfInBounds j true).getD f true=false→S w':=fun h=>ao (by rw[Array.setIfInBounds_comm _ _ (Ne.symm ig),getD_set_ne true ny];exact h)
   have hT':T w':=by
    rcases hc with h|⟨h,_⟩
    ·exact h w'
    ·rcases eq with h'|h'
     ·exact h' w'
     ·exact h w' (WD h')
   refine⟨WD,ih (listed.setIfInBounds j true) a' w' GO (ready_mono hr (Ne.symm ig)) vk hT' eq WD ?_⟩
   rw[Array.setIfInBounds_comm _ _ ig];exact WC
theorem G4 {i:Nat}{oi:Oper}{v:Value}{fuel:Nat}{listed:Array Bool}{a:Act}{w:World}(hi:ops[i]? = some oi)
 (hs:Region.noSelect ops=true) (hf:Region.free md ops listed i=true) (hr:(Jv md ops listed).contains i=true) (hw:Mk md ops f i=true) (ny:i≠f) (hl:listed.getD f true=false)
 (hQ:∀c a w,Q (.panic c) (a.put oi.dst v) w→Q (.panic c) a w) (hy:YieldsIf P ops S oi v a) (hS:S w)
 (h:Gs P md ops Q S f fuel (listed.setIfInBounds i true) (a.put oi.dst v) w):Gs P md ops Q S f (fuel+1) listed a w:=
 T7 hi (Region.noSelect_spec hs) hQ ny (.inr ⟨fun _ h=>h,hw⟩) fuel listed a w (Region.free_spec hi hf) (by simpa using hr) hy hS (.inr hl) (fun _=>hS) h
theorem Bg {i:Nat}{oi:Oper}{v:Value}{fuel:Nat}{listed:Array Bool}{a:Act}{w:World}(hi:ops[i]? = some oi)
 (hs:Region.noSelect ops=true) (hf:Region.free md ops listed i=true) (hr:(Jv md ops listed).contains i=true) (ny:i≠f)
 (hQ:∀c a w,Q (.panic c) (a.put oi.dst v) w→Q (.panic c) a w) (hy:YieldsIf P ops (fun _=>True) oi v a) (hS:listed.getD f true=false→S w)
 (h:Gs P md ops Q S f fuel (listed.setIfInBounds i true) (a.put oi.dst v) w):Gs P md ops Q S f (fuel+1) listed a w:=
 T7 (T:=fun _=>True) hi (Region.noSelect_spec hs) hQ ny (.inl fun _=>trivial) fuel listed a w (Region.free_spec hi hf) (by simpa using hr) hy trivial (.inl fun _=>trivial) hS h
theorem Jb {i:Nat}{o:Oper}{fuel:Nat}{listed:Array Bool}{a:Act}{w:World}(hr:Jv md ops listed=[i])(ho:ops[i]? = some o)
 (h:∀K':Act→World→Prop,Shut (∀a w,S w→(S w→Gs P md ops Q S f fuel (listed.setIfInBounds i true) a w)→K' a w)→if Bu o (yielded ops a.tmps)=true then Oper.wp P o a w K' Q else K' (a.put o.dst undef) w):
 Gs P md ops Q S f (fuel+1) listed a w:=by
 refine⟨fun h0=>absurd (hr.symm.trans h0) (by simp),fun j hj=>?_⟩
 rw[hr,Cw]at hj;subst hj;exact wpOp_step ho fun K' hK=>h K' fun a w hS hW=>hK a w ⟨fun _=>hS,hW hS⟩
theorem G6 {i:Nat}{o:Oper}{fuel:Nat}{listed:Array Bool}{a:Act}{w:World}(hr:Jv md ops listed=[i])(ho:ops[i]? = some o)(hl:(listed.setIfInBounds i true).getD f true=true)
 (h:∀K':Act→World→Prop,Shut (∀a w,Gs P md ops Q S f fuel (listed.setIfInBounds i true) a w→K' a w)→if Bu o (yielded ops a.tmps)=true then Oper.wp P o a w K' Q else K' (a.put o.dst undef) w):
 Gs P md ops Q S f (fuel+1) listed a w:=by
 refine⟨fun h0=>absurd (hr.symm.trans h0) (by simp),fun j hj=>?_⟩
 rw[hr,Cw]at hj;subst hj;exact wpOp_step ho fun K' hK=>h K' fun a w hW=>hK a w ⟨fun e=>(by rw[hl]at e;cases e),hW⟩
theorem Mj {listed:Array Bool}{a:Act}{w:World}(hr:Jv md ops listed=[])(h:Q .normal a w):∀fuel,Gs P md ops Q S f fuel listed a w
 |0=>⟨hr,h⟩
 |_+1=>⟨fun _=>h,by rw[hr];simp⟩
theorem J5 {id:Nat}{a:Act}{w:World}(f:Nat)(hm:P.follows .mixedOrders=true)(hS:S w.drew)
 (h:S w.drew→Gs P .any ops Q S f ops.size (Array.replicate ops.size false) a w.drew):(Code.region id ops true).wp P Q a w:=
 wp_region_any hm (Gs.any _ _ _ _ (h hS))
end
theorem wN {v:SV}(h:Dm w col p v s)(hl:s.tx.length≤200)(hq:s.told.length≤500000000000)(hb:s.past.length≤30):
 Calls prog 66 #[.pointer (some ⟨p,0,none⟩),.agg #[k1,k2,(0:Int),(117:Int),k5]] w fun e w'=>e=.returned (.tuple #[])∧C6 p w col (Gm s) w':=by
 have N0:=trivial;exact K27
theorem pR {v:SV}(h:Dm w col p v s)(hl:s.tx.length≤200)(hq:s.told.length≤500000000000)(hf:s.first.length≤200)(hb:s.past.length≤30):
 Calls prog 66 #[.pointer (some ⟨p,0,none⟩),.agg #[k1,k2,(0:Int),(85:Int),k5]] w fun e w'=>e=.returned (.tuple #[])∧C6 p w col (J4 s) w':=by
 have N1:=trivial;exact K27
theorem J1g {v:SV}(h:Dm w col p v s)(hl:s.tx.length≤200)(hq:s.told.length≤500000000000){K:Nat}(wl:∀x∈s.tx,(Lit.int .i64 x).wf=true)(hb:s.past.length≤30)(hz:∀c d,L2 s.tx s.rl s.at_ s.fk s.fa c=some d→d.tx.length≤4096)
 (hD:∀c ks d,s.last=some (c,ks)→L2 s.tx s.rl s.at_ s.fk s.fa (Cf c k1)=some d→(Hq s (Cf c k1) d).mode≠0→xO K 500000000000 (Hq s (Cf c k1) d)) (xl:∀c ks,s.last=some (c,ks)→(∀k∈ks,k≠27)∧ks.length≤2000000) (hK:K≤2000000):
 Calls prog 66 #[.pointer (some ⟨p,0,none⟩),.agg #[k1,k2,(0:Int),(46:Int),k5]] w fun e w'=>e=.returned (.tuple #[])∧C6 p w col (Dv s k1) w':=by
 have N2:=trivial;exact K27
theorem J5f {v:SV}{k1 k2 k3 k4 k5:Int}(h:Dm w col p v s)(hl:s.tx.length≤200)(hq:s.told.length≤500000000000)(wl:∀x∈s.tx,(Lit.int .i64 x).wf=true)(hb:s.past.length≤30)(hz:∀c d,L2 s.tx s.rl s.at_ s.fk s.fa c=some d→d.tx.length≤4096)(h3:(k3 !=0)=true):
 Calls prog 66 #[.pointer (some ⟨p,0,none⟩),.agg #[k1,k2,k3,k4,k5]] w fun e w'=>e=.returned (.tuple #[])∧C6 p w col (doS s ⟨k1,k2,k3,k4,k5⟩) w':=by
 have N3:=trivial;exact K27
theorem wM {v:SV}{k1 k2 k4 k5:Int}(h:Dm w col p v s)(hl:s.tx.length≤200)(hq:s.told.length≤500000000000)(wl:∀x∈s.tx,(Lit.int .i64 x).wf=true)(hb:s.past.length≤30)(hz:∀c d,L2 s.tx s.rl s.at_ s.fk s.fa c=some d→d.tx.length≤4096)(v117:(k4==117)=false)(v85:(k4==85)=false)(v46:(k4==46)=false)(v107:(k4==107)=false)(v106:(k4==106)=false)(v71:(k4==71)=false)(v110:(k4==110)=false)(v78:(k4==78)=false)(v47:(k4==47)=false)(v63:(k4==63)=false):
 Calls prog 66 #[.pointer (some ⟨p,0,none⟩),.agg #[k1,k2,(0:Int),k4,k5]] w fun e w'=>e=.returned (.tuple #[])∧C6 p w col (doS s ⟨k1,k2,0,k4,k5⟩) w':=by
 have N4:=trivial;exact K27
theorem pP {v:SV}(h:Dm w col p v s)(hl:s.tx.length≤200)(hq:s.told.length≤500000000000):
 Calls prog 66 #[.pointer (some ⟨p,0,none⟩),.agg #[k1,k2,(0:Int),(47:Int),k5]] w fun e w'=>e=.returned (.tuple #[])∧C6 p w col (mB s true) w':=by
 have N0:=trivial;exact K10
theorem pQ {v:SV}(h:Dm w col p v s)(hl:s.tx.length≤200)(hq:s.told.length≤500000000000):
 Calls prog 66 #[.pointer (some ⟨p,0,none⟩),.agg #[k1,k2,(0:Int),(63:Int),k5]] w fun e w'=>e=.returned (.tuple #[])∧C6 p w col (mB s false) w':=by
 have N1:=trivial;exact K10
theorem Bl.pop {b m c:Nat}(h:Bl w b (.slice A (m+1) c) l):Bl w b (.slice A m c) l.dropLast:=by
 obtain⟨A',n',c',e,h1,h2,h3⟩:=h;injection e with e1 e2 e3;subst e1 e2 e3;have hl:=h1.ints.len;have h4:=Bd.pop (k:=m) h1 (by omega) (by omega)
 rw[←List.map_take]at h4;refine⟨A,m,c,rfl,?_,h2,by omega⟩
 rw[List.dropLast_eq_take,hl];exact h4
noncomputable def Mr (s:PS)(key:Int):PS:=
 if key=13∨key=10 then Fs { s with mode:=0 } s.ask s.older s.older
 else if key=27 then { s with mode:=0 }
 else if key=8∨key=127 then(if s.ask=[]then { s with mode:=0 }else { s with ask:=s.ask.dropLast })
 else if key<32∨s.ask.length=200 then Ec s
 else { s with ask:=s.ask++[key] }
theorem qO {v:SV}(h:Dm w col p v s)(hk:key=13∨key=10)(hl:s.tx.length≤200)(hq:s.told.length≤500000000000)(ab:∀k,k<s.hi.lines.length→(toL s.hi s.tx k).length≤4096):
 Calls prog 60 #[.pointer (some ⟨p,0,none⟩),.int .i64 key] w fun e w'=>e=.returned (.tuple #[])∧C6 p w col (Fs { s with mode:=0 } s.ask s.older s.older) w':=by
 have hb:=h.ses.blk;have d2:w.cell? ⟨p,2,none⟩=some (.int .i64 s.mode):=hb.cell 2;have f2:=hb.frozen 2;have HM:=A6 (h.chain ((E5.start (An.refl w) h.ses.blk).set 2 (.int .i64 0)) v { s with mode:=0 } (by kernel_rfl) (fun w'' _ ht hd=>⟨hd.1,hd.2,hd.3,hd.4,hd.5,hd.6,hd.7,hd.8⟩))
 clear h hb;rcases hk with rfl|rfl
 all_goals
  go_enter func60,ntmps60
  go_upto_region 3 with fail
  clear d2 f2;generalize w.setCell ⟨p,2,none⟩ (0:Int)=wa at*;have HT:=A6 HM.out.2;have gz:=HM.out.1.ext (An.drew wa);clear HM;have hE0:=An.drew wa;have KX:=A6 ((⟨hE0.alt _,fun _ _ h=>h,fun _ _ h=>h⟩:Km wa col wa.drew col))
  clear hE0;obtain⟨A9,n9,k9,mv,lf,qd,_⟩:=gz.ses.dat.here.ask;have HA9:=A6 (And.intro lf.ints qd);have dk:=gz.ses.blk;have HC:Hid (∀wq,An wa.drew wq→Calls prog 53 #[.agg #[.pointer v.tr]] wq fun e w'=>∃u,e=.returned u∧(∃A k,u=.slice A s.tx.length k∧Ba w' wq.heap.size A s.tx.length k s.tx)∧An wq w'):=
   A6 fun wq he=>Hc (gz.ext he).ses.dat.here.tr (by show s.tx.length≤4096;omega)
  have HF:Hid (∀wq A k,An wa.drew wq→Ba wq 0 A s.tx.length k s.tx→Calls prog 81 #[.agg (Ln v s.hi),.slice A s.tx.length k,.slice A9 n9 k9,.bool s.older] wq fun e w'=>∃u,e=.returned u∧(∃U L m z x,u=.tuple #[U,.slice L m z,.int .i64 x]∧
   Calls prog 80 #[.pointer (some ⟨p,0,none⟩),U,.slice L m z,.int .i64 x] w' fun e' w''=>e'=.returned (.tuple #[])∧C6 p w col (Fs { s with mode:=0 } s.ask s.older s.older) w'')):=A6 fun wq A k he hA=>by
   have hm:=gz.ext he;refine(lG hm.ses.dat.here.his.v hA.ints (Bd.nocap' hA) (HA9.out.1.ext he) HA9.out.2).mono ?_
   rintro e w' ⟨fw,hg⟩;obtain⟨U,L,m,z,x,rfl,hc⟩:=Rn (keep:=s.older) hm fw (show s.told.length≤1000000000000 by omega) ab (hg.imp (fun⟨k,h1,h2,u,L,m,z,h3,h4,h5,_⟩=>⟨k,h1,h2,u,L,m,z,h3,h4,h5⟩) id)
   exact⟨_,rfl,U,L,m,z,x,rfl,hc.mono fun e w'' ⟨h1,h2⟩=>⟨h1,C6.trans HT.out (C6.trans KX.out (C6.trans ⟨he.alt _,fun _ _ h=>h,fun _ _ h=>h⟩ h2))⟩⟩
  clear gz lf qd;refine J5 (S:=fun w'=>An wa.drew w') 19 (by kernel_rfl) (An.refl _) (fun hS=>?_)
  generalize wa.drew=cur at*;refine Bg (i:=0) (v:=some p) rfl (by kernel_rfl) (by kernel_rfl) (by kernel_rfl) (by decide) (fun _ _ _ h=>h) (Or.inl ⟨by rfl,by(intro w' ag;go_simp)⟩) (fun hl=>by first|exact hS|exact absurd hl (by decide)) ?_
  try simp only[Ac,Aa,Ab,Ao,A7,Ad,Ae]
  refine Bg (i:=1) (v:=some p) rfl (by kernel_rfl) (by kernel_rfl) (by kernel_rfl) (by decide) (fun _ _ _ h=>h) (Or.inl ⟨by rfl,by(intro w' ag;go_simp)⟩) (fun hl=>by first|exact hS|exact absurd hl (by decide)) ?_
  try simp only[Ac,Aa,Ab,Ao,A7,Ad,Ae]
  refine Bg (i:=2) (v:=some p) rfl (by kernel_rfl) (by kernel_rfl) (by kernel_rfl) (by decide) (fun _ _ _ h=>h) (Or.inl ⟨by rfl,by(intro w' ag;go_simp)⟩) (fun hl=>by first|exact hS|exact absurd hl (by decide)) ?_
  try simp only[Ac,Aa,Ab,Ao,A7,Ad,Ae]
  refine Bg (i:=3) (v:=(.pointer (some ⟨p,37,none⟩))) rfl (by kernel_rfl) (by kernel_rfl) (by kernel_rfl) (by decide) (fun _ _ _ h=>h) (Or.inl ⟨by rfl,by(intro w' ag;go_simp)⟩) (fun hl=>by first|exact hS|exact absurd hl (by decide)) ?_
  try simp only[Ac,Aa,Ab,Ao,A7,Ad,Ae]
  refine G4 (i:=4) (v:=(.agg (Ln v s.hi))) rfl (by kernel_rfl) (by kernel_rfl) (by kernel_rfl) (by kernel_rfl) (by decide) (by kernel_rfl) (fun _ _ _ h=>h) (Or.inl ⟨by rfl,by(intro w' ag;exact Dy 94 (.tmp 28) rfl p 37 6 rfl (dk.ext ag) (by kernel_rfl) underlying94 rfl (by kernel_rfl))⟩) hS ?_
  try simp only[Ac,Aa,Ab,Ao,A7,Ad,Ae]
  refine Bg (i:=5) (v:=some p) rfl (by kernel_rfl) (by kernel_rfl) (by kernel_rfl) (by decide) (fun _ _ _ h=>h) (Or.inl ⟨by rfl,by(intro w' ag;go_simp)⟩) (fun hl=>by first|exact hS|exact absurd hl (by decide)) ?_
  try simp only[Ac,Aa,Ab,Ao,A7,Ad,Ae]
  refine Bg (i:=6) (v:=some p) rfl (by kernel_rfl) (by kernel_rfl) (by kernel_rfl) (by decide) (fun _ _ _ h=>h) (Or.inl ⟨by rfl,by(intro w' ag;go_simp)⟩) (fun hl=>by first|exact hS|exact absurd hl (by decide)) ?_
  try simp only[Ac,Aa,Ab,Ao,A7,Ad,Ae]
  refine Bg (i:=7) (v:=some p) rfl (by kernel_rfl) (by kernel_rfl) (by kernel_rfl) (by decide) (fun _ _ _ h=>h) (Or.inl ⟨by rfl,by(intro w' ag;go_simp)⟩) (fun hl=>by first|exact hS|exact absurd hl (by decide)) ?_
  try simp only[Ac,Aa,Ab,Ao,A7,Ad,Ae]
  refine Bg (i:=8) (v:=some p) rfl (by kernel_rfl) (by kernel_rfl) (by kernel_rfl) (by decide) (fun _ _ _ h=>h) (Or.inl ⟨by rfl,by(intro w' ag;go_simp)⟩) (fun hl=>by first|exact hS|exact absurd hl (by decide)) ?_
  try simp only[Ac,Aa,Ab,Ao,A7,Ad,Ae]
  refine Bg (i:=11) (v:=some p) rfl (by kernel_rfl) (by kernel_rfl) (by kernel_rfl) (by decide) (fun _ _ _ h=>h) (Or.inl ⟨by rfl,by(intro w' ag;go_simp)⟩) (fun hl=>by first|exact hS|exact absurd hl (by decide)) ?_
  try simp only[Ac,Aa,Ab,Ao,A7,Ad,Ae]
  refine Bg (i:=12) (v:=some p) rfl (by kernel_rfl) (by kernel_rfl) (by kernel_rfl) (by decide) (fun _ _ _ h=>h) (Or.inl ⟨by rfl,by(intro w' ag;go_simp)⟩) (fun hl=>by first|exact hS|exact absurd hl (by decide)) ?_
  try simp only[Ac,Aa,Ab,Ao,A7,Ad,Ae]
  refine Bg (i:=13) (v:=(.pointer (some ⟨p,48,none⟩))) rfl (by kernel_rfl) (by kernel_rfl) (by kernel_rfl) (by decide) (fun _ _ _ h=>h) (Or.inl ⟨by rfl,by(intro w' ag;go_simp)⟩) (fun hl=>by first|exact hS|exact absurd hl (by decide)) ?_
  try simp only[Ac,Aa,Ab,Ao,A7,Ad,Ae]
  refine G4 (i:=14) (v:=(.slice A9 n9 k9)) rfl (by kernel_rfl) (by kernel_rfl) (by kernel_rfl) (by kernel_rfl) (by decide) (by kernel_rfl) (fun _ _ _ h=>h) (Or.inl ⟨by rfl,by(intro w' ag;have e0:w'.cell? ⟨p,48,none⟩=some (.slice A9 n9 k9):=((dk.ext ag).cell 48).trans (congrArg some mv);go_simp)⟩) hS ?_
  try simp only[Ac,Aa,Ab,Ao,A7,Ad,Ae]
  refine Bg (i:=15) (v:=some p) rfl (by kernel_rfl) (by kernel_rfl) (by kernel_rfl) (by decide) (fun _ _ _ h=>h) (Or.inl ⟨by rfl,by(intro w' ag;go_simp)⟩) (fun hl=>by first|exact hS|exact absurd hl (by decide)) ?_
  try simp only[Ac,Aa,Ab,Ao,A7,Ad,Ae]
  refine Bg (i:=16) (v:=some p) rfl (by kernel_rfl) (by kernel_rfl) (by kernel_rfl) (by decide) (fun _ _ _ h=>h) (Or.inl ⟨by rfl,by(intro w' ag;go_simp)⟩) (fun hl=>by first|exact hS|exact absurd hl (by decide)) ?_
  try simp only[Ac,Aa,Ab,Ao,A7,Ad,Ae]
  refine Bg (i:=17) (v:=(.pointer (some ⟨p,49,none⟩))) rfl (by kernel_rfl) (by kernel_rfl) (by kernel_rfl) (by decide) (fun _ _ _ h=>h) (Or.inl ⟨by rfl,by(intro w' ag;go_simp)⟩) (fun hl=>by first|exact hS|exact absurd hl (by decide)) ?_
  try simp only[Ac,Aa,Ab,Ao,A7,Ad,Ae]
  refine G4 (i:=18) (v:=(.bool s.older)) rfl (by kernel_rfl) (by kernel_rfl) (by kernel_rfl) (by kernel_rfl) (by decide) (by kernel_rfl) (fun _ _ _ h=>h) (Or.inl ⟨by rfl,by(intro w' ag;have e0:w'.cell? ⟨p,49,none⟩=some (.bool s.older):=(dk.ext ag).cell 49;go_simp)⟩) hS ?_
  try simp only[Ac,Aa,Ab,Ao,A7,Ad,Ae]
  have d0:cur.cell? ⟨p,0,none⟩=some (.pointer v.tr):=dk.cell 0;refine Jb (i:=9) (by decide +kernel) rfl (fun K hK=>?_)
  go_simp
  refine hK.out _ _ hS (fun hS=>?_)
  clear hK K d0
  try simp only[Ac,Aa,Ab,Ao,A7,Ad,Ae]
  refine Jb (i:=10) (by decide +kernel) rfl (fun K hK=>?_)
  refine Cl rfl 53 #[.agg #[.pointer v.tr]] rfl (by kernel_rfl) (fun u w'=>∃A k,u=.slice A s.tx.length k∧Ba w' cur.heap.size A s.tx.length k s.tx) (HC.out _ hS) ?_
  rintro u w2 ⟨A,k,rfl,hA⟩ hE;replace hA:=hA.lower (Nat.zero_le _);refine hK.out _ _ hE (fun hS=>?_)
  clear hK K hE
  try simp only[Ac,Aa,Ab,Ao,A7,Ad,Ae]
  refine G6 (i:=19) (by decide +kernel) rfl (by decide +kernel) (fun K hK=>?_)
  refine Ck rfl 81 #[.agg (Ln v s.hi),.slice A s.tx.length k,.slice A9 n9 k9,.bool s.older] rfl (by kernel_rfl) _ (HF.out _ A k hS hA) ?_
  rintro u w3 ⟨U,L,m,z,x,rfl,lq⟩;refine hK.out _ _ ?_
  clear hK K hS hA
  try simp only[Ac,Aa,Ab,Ao,A7,Ad,Ae]
  refine Bg (i:=20) (v:=U) rfl (by kernel_rfl) (by kernel_rfl) (by kernel_rfl) (by decide) (fun _ _ _ h=>h) (Or.inl ⟨by rfl,by(intro w' ag;go_simp)⟩) (fun hl=>by first|exact hS|exact absurd hl (by decide)) ?_
  try simp only[Ac,Aa,Ab,Ao,A7,Ad,Ae]
  refine Bg (i:=21) (v:=(.slice L m z)) rfl (by kernel_rfl) (by kernel_rfl) (by kernel_rfl) (by decide) (fun _ _ _ h=>h) (Or.inl ⟨by rfl,by(intro w' ag;go_simp)⟩) (fun hl=>by first|exact hS|exact absurd hl (by decide)) ?_
  try simp only[Ac,Aa,Ab,Ao,A7,Ad,Ae]
  refine Bg (i:=22) (v:=x) rfl (by kernel_rfl) (by kernel_rfl) (by kernel_rfl) (by decide) (fun _ _ _ h=>h) (Or.inl ⟨by rfl,by(intro w' ag;go_simp)⟩) (fun hl=>by first|exact hS|exact absurd hl (by decide)) ?_
  try simp only[Ac,Aa,Ab,Ao,A7,Ad,Ae]
  refine G6 (i:=23) (by decide +kernel) rfl (by decide +kernel) (fun K hK=>?_)
  refine Ck rfl 80 #[.pointer (some ⟨p,0,none⟩),U,.slice L m z,.int .i64 x] rfl (by kernel_rfl) (fun u w'=>u=.tuple #[]∧C6 p w col (Fs { s with mode:=0 } s.ask s.older s.older) w') (lq.mono fun e w' ⟨h1,h2⟩=>⟨_,h1,rfl,h2⟩) ?_
  rintro u w4 ⟨rfl,cn⟩;have ic:=A6 cn;clear cn lq;refine hK.out _ _ ?_
  clear hK K;refine Mj (by kernel_rfl) ?_ _
  go_wp2_with fail
  go_end0
  exact⟨rfl,ic.out⟩
theorem J1s {v:SV}(h:Dm w col p v s)(hk:key=27):
 Calls prog 60 #[.pointer (some ⟨p,0,none⟩),.int .i64 key] w fun e w'=>e=.returned (.tuple #[])∧C6 p w col ({ s with mode:=0 }) w':=by
 have hb:=h.ses.blk;have d2:w.cell? ⟨p,2,none⟩=some (.int .i64 s.mode):=hb.cell 2;have f2:=hb.frozen 2;have HM:=A6 (h.chain ((E5.start (An.refl w) h.ses.blk).set 2 (.int .i64 0)) v { s with mode:=0 } (by kernel_rfl) (fun w'' _ ht hd=>⟨hd.1,hd.2,hd.3,hd.4,hd.5,hd.6,hd.7,hd.8⟩))
 clear h hb;subst hk;go_enter func60,ntmps60
 go_wp2_with fail
 go_end0
 exact⟨rfl,_,_,HM.out⟩
theorem xH {v:SV}(h:Dm w col p v s)(hk:key=8∨key=127)(ha:s.ask=[]):
 Calls prog 60 #[.pointer (some ⟨p,0,none⟩),.int .i64 key] w fun e w'=>e=.returned (.tuple #[])∧C6 p w col ({ s with mode:=0 }) w':=by
 have hb:=h.ses.blk;have d2:w.cell? ⟨p,2,none⟩=some (.int .i64 s.mode):=hb.cell 2;have f2:=hb.frozen 2;have HM:=A6 (h.chain ((E5.start (An.refl w) h.ses.blk).set 2 (.int .i64 0)) v { s with mode:=0 } (by kernel_rfl) (fun w'' _ ht hd=>⟨hd.1,hd.2,hd.3,hd.4,hd.5,hd.6,hd.7,hd.8⟩))
 obtain⟨A9,n9,k9,mv,lf,qd,_⟩:=h.ses.dat.here.ask;have hn:=lf.ints.len;rw[ha]at hn;have hn:n9=0:=by simpa using hn.symm
 subst hn;have d48:w.cell? ⟨p,48,none⟩=some (.slice A9 0 k9):=(hb.cell 48).trans (congrArg some mv);clear h hb lf qd mv;rcases hk with rfl|rfl
 all_goals
  go_enter func60,ntmps60
  go_wp2_with fail
  refine bodyPost_ret (results_none rfl _ _ _) rfl ⟨rfl,_,_,HM.out⟩
theorem xJ {v:SV}(h:Dm w col p v s)(hk:key=8∨key=127)(ha:s.ask≠[]):
 Calls prog 60 #[.pointer (some ⟨p,0,none⟩),.int .i64 key] w fun e w'=>e=.returned (.tuple #[])∧C6 p w col ({ s with ask:=s.ask.dropLast }) w':=by
 have hb:=h.ses.blk;obtain⟨A9,n9,k9,mv,lf,qd,As⟩:=h.ses.dat.here.ask;have hn:=lf.ints.len;obtain⟨m,rfl⟩:∃m,n9=m+1:=⟨n9-1,by have:=List.length_pos_iff.2 ha;omega⟩
 have aw:=lf.ints.ncap;have d48:w.cell? ⟨p,48,none⟩=some (.slice A9 (m+1) k9):=(hb.cell 48).trans (congrArg some mv);have cc:=E5.start (An.drew w) (hb.ext (An.drew w));have hnz:((((m+1:Nat):Int))==0)=false:=by simp;omega
 have H:=A6 h;have HV:=A6 mv;clear h hb lf qd mv;rcases hk with rfl|rfl
 all_goals
  go_enter func60,ntmps60
  go_upto_region 9 with fail
  have d48':w.drew.cell? ⟨p,48,none⟩=some (.slice A9 (m+1) k9):=An.cell (An.drew w) d48;have f48:=cc.blk.frozen 48;have dm:((((m+1:Nat):Int))-1)=(m:Int):=by omega
  refine J5 (S:=fun w'=>w'=w.drew) 11 (by kernel_rfl) rfl (fun hS=>?_)
  generalize w.drew=cur at*;refine Bg (i:=0) (v:=some p) rfl (by kernel_rfl) (by kernel_rfl) (by kernel_rfl) (by decide) (fun _ _ _ h=>h) (Or.inl ⟨by rfl,by(intro w' ag;go_simp)⟩) (fun hl=>by first|exact hS|exact absurd hl (by decide)) ?_
  try simp only[Ac,Aa,Ab,Ao,A7,Ad,Ae]
  refine Bg (i:=1) (v:=some p) rfl (by kernel_rfl) (by kernel_rfl) (by kernel_rfl) (by decide) (fun _ _ _ h=>h) (Or.inl ⟨by rfl,by(intro w' ag;go_simp)⟩) (fun hl=>by first|exact hS|exact absurd hl (by decide)) ?_
  try simp only[Ac,Aa,Ab,Ao,A7,Ad,Ae]
  refine Bg (i:=2) (v:=some p) rfl (by kernel_rfl) (by kernel_rfl) (by kernel_rfl) (by decide) (fun _ _ _ h=>h) (Or.inl ⟨by rfl,by(intro w' ag;go_simp)⟩) (fun hl=>by first|exact hS|exact absurd hl (by decide)) ?_
  try simp only[Ac,Aa,Ab,Ao,A7,Ad,Ae]
  refine Bg (i:=3) (v:=(.pointer (some ⟨p,48,none⟩))) rfl (by kernel_rfl) (by kernel_rfl) (by kernel_rfl) (by decide) (fun _ _ _ h=>h) (Or.inl ⟨by rfl,by(intro w' ag;go_simp)⟩) (fun hl=>by first|exact hS|exact absurd hl (by decide)) ?_
  try simp only[Ac,Aa,Ab,Ao,A7,Ad,Ae]
  refine G4 (i:=4) (v:=(.slice A9 (m+1) k9)) rfl (by kernel_rfl) (by kernel_rfl) (by kernel_rfl) (by kernel_rfl) (by decide) (by kernel_rfl) (fun _ _ _ h=>h) (Or.inl ⟨by rfl,by(intro w' ag;subst ag;go_simp)⟩) hS ?_
  try simp only[Ac,Aa,Ab,Ao,A7,Ad,Ae]
  refine Bg (i:=5) (v:=some p) rfl (by kernel_rfl) (by kernel_rfl) (by kernel_rfl) (by decide) (fun _ _ _ h=>h) (Or.inl ⟨by rfl,by(intro w' ag;go_simp)⟩) (fun hl=>by first|exact hS|exact absurd hl (by decide)) ?_
  try simp only[Ac,Aa,Ab,Ao,A7,Ad,Ae]
  refine Bg (i:=6) (v:=some p) rfl (by kernel_rfl) (by kernel_rfl) (by kernel_rfl) (by decide) (fun _ _ _ h=>h) (Or.inl ⟨by rfl,by(intro w' ag;go_simp)⟩) (fun hl=>by first|exact hS|exact absurd hl (by decide)) ?_
  try simp only[Ac,Aa,Ab,Ao,A7,Ad,Ae]
  refine Bg (i:=7) (v:=(.pointer (some ⟨p,48,none⟩))) rfl (by kernel_rfl) (by kernel_rfl) (by kernel_rfl) (by decide) (fun _ _ _ h=>h) (Or.inl ⟨by rfl,by(intro w' ag;go_simp)⟩) (fun hl=>by first|exact hS|exact absurd hl (by decide)) ?_
  try simp only[Ac,Aa,Ab,Ao,A7,Ad,Ae]
  refine Jb (i:=8) (by decide +kernel) rfl (fun K hK=>?_)
  go_simp
  refine hK.out _ _ rfl (fun hS=>?_)
  clear hK K
  try simp only[Ac,Aa,Ab,Ao,A7,Ad,Ae]
  refine Bg (i:=9) (v:=(.int .i64 ((m+1:Nat):Int))) rfl (by kernel_rfl) (by kernel_rfl) (by kernel_rfl) (by decide) (fun _ _ _ h=>h) (Or.inl ⟨by rfl,by(intro w' ag;go_simp)⟩) (fun hl=>by first|exact hS|exact absurd hl (by decide)) ?_
  try simp only[Ac,Aa,Ab,Ao,A7,Ad,Ae]
  refine Bg (i:=10) (v:=(.int .i64 (m:Int))) rfl (by kernel_rfl) (by kernel_rfl) (by kernel_rfl) (by decide) (fun _ _ _ h=>h) (Or.inl ⟨by rfl,by(intro w' ag;have lg:IntKind.i64.wrap (m:Int)=(m:Int):=IntWalk.i64_in _ (by omega);go_simp)⟩) (fun hl=>by first|exact hS|exact absurd hl (by decide)) ?_
  try simp only[Ac,Aa,Ab,Ao,A7,Ad,Ae]
  have f6:m≤k9:=by omega
  refine G6 (i:=11) (by decide +kernel) rfl (by decide +kernel) (fun K hK=>?_)
  go_simp
  refine hK.out _ _ ?_
  clear hK K
  try simp only[Ac,Aa,Ab,Ao,A7,Ad,Ae]
  refine Bg (i:=12) (v:=some p) rfl (by kernel_rfl) (by kernel_rfl) (by kernel_rfl) (by decide) (fun _ _ _ h=>h) (Or.inl ⟨by rfl,by(intro w' ag;go_simp)⟩) (fun hl=>by first|exact hS|exact absurd hl (by decide)) ?_
  try simp only[Ac,Aa,Ab,Ao,A7,Ad,Ae]
  refine Bg (i:=13) (v:=(.pointer (some ⟨p,48,none⟩))) rfl (by kernel_rfl) (by kernel_rfl) (by kernel_rfl) (by decide) (fun _ _ _ h=>h) (Or.inl ⟨by rfl,by(intro w' ag;go_simp)⟩) (fun hl=>by first|exact hS|exact absurd hl (by decide)) ?_
  try simp only[Ac,Aa,Ab,Ao,A7,Ad,Ae]
  refine G6 (i:=14) (by decide +kernel) rfl (by decide +kernel) (fun K hK=>?_)
  go_simp
  refine hK.out _ _ ?_
  clear hK K;have HR:=A6 (H.out.chain (cc.set 48 (.slice A9 m k9)) { v with ask:=.slice A9 m k9 } { s with ask:=s.ask.dropLast } (by kernel_rfl) (fun w'' _ ht hd=>⟨hd.1,hd.2,hd.3,hd.4,hd.5,hd.6,Bl.pop (HV.out▸hd.7),hd.8⟩))
  refine Mj (by kernel_rfl) ?_ _
  clear cc;exact I143
theorem xI {v:SV}(h:Dm w col p v s)(td:(key==13)=false)(vz:(key==10)=false)(tm:(key==27)=false)(h8:(key==8)=false)(da:(key==127)=false)(hk:key<32∨s.ask.length=200)(hq:s.told.length≤500000000000):
 Calls prog 60 #[.pointer (some ⟨p,0,none⟩),.int .i64 key] w fun e w'=>e=.returned (.tuple #[])∧C6 p w col (Ec s) w':=by
 have hb:=h.ses.blk;obtain⟨A9,n9,k9,mv,lf,qd,As⟩:=h.ses.dat.here.ask;have hn:=lf.ints.len;have d48:w.cell? ⟨p,48,none⟩=some (.slice A9 n9 k9):=(hb.cell 48).trans (congrArg some mv);have HB:=A6 (Lf h (by omega))
 rw[hn]at hk;clear h hb lf qd As mv hn;by_cases df:key<32
 ·have OD:(decide (key<32))=true:=by simpa using df
  clear hk;exact I41
 ·have OD:(decide (key<32))=false:=by simpa using df
  have hk:n9=200:=hk.resolve_left df;subst hk;clear df;exact I41
theorem J1t {v:SV}(h:Dm w col p v s)(td:(key==13)=false)(vz:(key==10)=false)(tm:(key==27)=false)(h8:(key==8)=false)(da:(key==127)=false)(hk:¬key<32)(fx:s.ask.length<200):
 Calls prog 60 #[.pointer (some ⟨p,0,none⟩),.int .i64 key] w fun e w'=>e=.returned (.tuple #[])∧C6 p w col ({ s with ask:=s.ask++[key] }) w':=by
 have hb:=h.ses.blk;obtain⟨i0,hi,bm,bz,az⟩:=info_parts Cd;obtain⟨A9,n9,k9,mv,lf,qd,As⟩:=h.ses.dat.here.ask;have hn:=lf.ints.len;have d48:w.cell? ⟨p,48,none⟩=some (.slice A9 n9 k9):=(hb.cell 48).trans (congrArg some mv);have kl:(((n9:Nat):Int)==200)=false:=by simp;omega
 have OD:(decide (key<32))=false:=by simpa using hk
 have ww:=A6 (Dj lf.ints qd As);have KF:n9<200:=by omega
 have H:=A6 h;clear h hb lf qd As mv hn hk fx;go_enter func60,ntmps60
 go_wp2_with fail
 refine ww.out.mono ?_
 rintro e w1 ⟨B,d,rfl,oc,hcB,he⟩;have al:=H.out.ses.blk.ext he;have f48:=al.frozen 48;clear d48 ww;go_wp2_with (at_builtin;refine C9 rfl (.tmp 9) (.tmp 11) 25 rfl w w.heap.size 3 i0 (.int .i64 0) 1 8 underlying25 hi bm bz az rfl (by decide) B n9 d _ rfl oc #[key] rfl (by simp[Value.oneCell']) rfl (by unfold maxLen;omega) (by omega) he (Nat.le_refl _) he.hsize ?_)
 intro A2 c2 w3 db av cf bg;have ap:=H.out.ses.blk.ext bg;have g48:w3.cell? ⟨p,48,none⟩=some v.ask:=ap.cell 48;have f48:=ap.frozen 48;have HR:Hid (C6 p w col { s with ask:=s.ask++[key] } (w3.setCell ⟨p,48,none⟩ (.slice A2 (n9+1) c2))):=A6 (by
  obtain⟨hm,ht⟩:=H.out.grow bg 1;have yj:Bl w3 w.heap.size (.slice A2 (n9+1) c2) (s.ask++[key]):=⟨A2,n9+1,c2,rfl,by unfold Ba;rw[List.map_append];exact db,Bd.nocap' db,by omega⟩
  have hD:=Jd.reg (F:=fun k=>grow col w.heap.size w3.heap.size 1 k=1) yj fun k h1 h2=>Jy h1 h2
  have c:=(E5.start (An.refl w3) hm.ses.blk).set 48 (.slice A2 (n9+1) c2);have hr:=hm.chainD hD c { v with ask:=.slice A2 (n9+1) c2 } { s with ask:=s.ask++[key] } (by kernel_rfl) fun w'' ou o6 el=>⟨el.1,el.2,el.3,el.4,el.5,el.6,o6,el.8⟩
  exact⟨_,_,hr.1,ht.trans hr.2⟩)
 clear db av cf bg ap;go_wp2_with fail
 go_end0
 exact⟨rfl,HR.out⟩
structure SOk (K:Nat)(s:PS):Prop where
 wf:∀x∈s.tx,(Lit.int .i64 x).wf=true
 line:xP s
 past:s.past.length≤30
 first:s.first.length≤200
 told:s.told.length≤500000000000
 hist:∀k,(toL s.hi s.tx k).length≤4096
 ask:s.ask.length≤200
 does:∀c d,L2 s.tx s.rl s.at_ s.fk s.fa c=some d→d.tx.length≤4096
 dot:∀n c ks d,s.last=some (c,ks)→L2 s.tx s.rl s.at_ s.fk s.fa (Cf c n)=some d→(Hq s (Cf c n) d).mode≠0→xO K 500000000000 (Hq s (Cf c n) d)
 keys:∀c ks,s.last=some (c,ks)→(∀k∈ks,k≠27)∧ks.length≤2000000
 few:K≤2000000
theorem Yi {v:SV}(h:Dm w col p v s)(ok:SOk K s)(c:Cm):
 Calls prog 66 #[.pointer (some ⟨p,0,none⟩),.agg (Pe c)] w fun e w'=>e=.returned (.tuple #[])∧C6 p w col (Di s c) w':=by
 obtain⟨k1,k2,k3,k4,k5⟩:=c;have hl:=ok.line.len;have hq:=ok.told;by_cases h3:k3≠0
 ·have e:Di s ⟨k1,k2,k3,k4,k5⟩=doS s ⟨k1,k2,k3,k4,k5⟩:=if_pos h3
  rw[e];exact J5f h hl hq ok.wf ok.past ok.does (by simpa using h3)
 ·have h3:k3=0:=Decidable.not_not.1 h3
  subst h3;unfold Di;rw[if_neg (by simp)]
  by_cases h1:k4=117
  ·rw[if_pos (show(_:Int)=_ from h1)]
   subst h1;exact wN h hl hq ok.past
  rw[if_neg (show ¬(_:Int)=_ from h1)]
  by_cases h2:k4=85
  ·rw[if_pos (show(_:Int)=_ from h2)]
   subst h2;exact pR h hl hq ok.first ok.past
  rw[if_neg (show ¬(_:Int)=_ from h2)]
  by_cases h3:k4=46
  ·rw[if_pos (show(_:Int)=_ from h3)]
   subst h3;exact J1g h hl hq ok.wf ok.past ok.does (ok.dot k1) ok.keys ok.few
  rw[if_neg (show ¬(_:Int)=_ from h3)]
  by_cases h4:k4=107
  ·rw[if_pos (show(_:Int)=_ from h4)]
   subst h4;exact J5e h hl (by omega) (ok.hist _)
  rw[if_neg (show ¬(_:Int)=_ from h4)]
  by_cases h5:k4=106
  ·rw[if_pos (show(_:Int)=_ from h5)]
   subst h5;exact wR h hl (by omega) (ok.hist _)
  rw[if_neg (show ¬(_:Int)=_ from h5)]
  by_cases h6:k4=71
  ·rw[if_pos (show(_:Int)=_ from h6)]
   subst h6;exact wQ h hl (by omega) (ok.hist _)
  rw[if_neg (show ¬(_:Int)=_ from h6)]
  by_cases h7:k4=110∨k4=78
  ·rw[if_pos (show(_:Int)=_∨(_:Int)=_ from h7)]
   rcases h7 with h7|h7
   ·subst h7
    exact wP h hl (by omega) (fun _ _=>ok.hist _)
   ·subst h7
    exact wO h hl (by omega) (fun _ _=>ok.hist _)
  rw[if_neg (show ¬((_:Int)=_∨(_:Int)=_)from h7)]
  by_cases h8:k4=47∨k4=63
  ·rw[if_pos (show(_:Int)=_∨(_:Int)=_ from h8)]
   rcases h8 with h8|h8
   ·subst h8
    exact pP h hl hq
   ·subst h8
    exact pQ h hl hq
  rw[if_neg (show ¬((_:Int)=_∨(_:Int)=_)from h8)]
  have nb:∀{x:Int},k4≠x→(k4==x)=false:=fun h=>by simpa using h
  exact wM h hl hq ok.wf ok.past ok.does (nb h1) (nb h2) (nb h3) (nb h4) (nb h5) (nb h6) (nb fun e=>h7 (.inl e)) (nb fun e=>h7 (.inr e)) (nb fun e=>h8 (.inl e)) (nb fun e=>h8 (.inr e))
theorem eN {v:SV}(h:Dm w col p v s)(ok:SOk K s)(c:Cm):
 Calls prog 66 #[.pointer (some ⟨p,0,none⟩),.agg (Pe c)] w fun e w'=>e=.returned (.tuple #[])∧C6 p w col (Di s c) w':=Yi h ok c
theorem xG {v:SV}(h:Dm w col p v s)(ok:SOk K s)(key:Int):
 Calls prog 60 #[.pointer (some ⟨p,0,none⟩),.int .i64 key] w fun e w'=>e=.returned (.tuple #[])∧C6 p w col (Mr s key) w':=by
 have nb:∀{x:Int},key≠x→(key==x)=false:=fun h=>by simpa using h
 unfold Mr;by_cases h1:key=13∨key=10
 ·rw[if_pos h1]
  exact qO h h1 ok.line.len ok.told (fun _ _=>ok.hist _)
 rw[if_neg h1];by_cases h2:key=27
 ·rw[if_pos h2]
  exact J1s h h2
 rw[if_neg h2];by_cases h3:key=8∨key=127
 ·rw[if_pos h3]
  by_cases ha:s.ask=[]
  ·rw[if_pos ha]
   exact xH h h3 ha
  ·rw[if_neg ha]
   exact xJ h h3 ha
 rw[if_neg h3];by_cases h4:key<32∨s.ask.length=200
 ·rw[if_pos h4]
  exact xI h (nb fun e=>h1 (.inl e)) (nb fun e=>h1 (.inr e)) (nb h2) (nb fun e=>h3 (.inl e)) (nb fun e=>h3 (.inr e)) h4 ok.told
 ·rw[if_neg h4]
  exact J1t h (nb fun e=>h1 (.inl e)) (nb fun e=>h1 (.inr e)) (nb h2) (nb fun e=>h3 (.inl e)) (nb fun e=>h3 (.inr e)) (fun e=>h4 (.inl e)) (by have:=ok.ask;have:s.ask.length≠200:=fun e=>h4 (.inr e);omega)
end
