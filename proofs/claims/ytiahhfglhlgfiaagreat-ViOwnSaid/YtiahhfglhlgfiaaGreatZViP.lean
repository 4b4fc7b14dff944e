/-
  Part ZViP.
-/
import Derived.Test.YtiahhfglhlgfiaaGreatZDoV
import Derived.Test.YtiahhfglhlgfiaaGreatZViG
set_option maxRecDepth 100000
set_option maxHeartbeats 16000000
set_option linter.unusedVariables false
set_option linter.unusedSimpArgs false
namespace Go.Proofs.YtiahhfglhlgfiaaGreat
open Go.RowKit
open Act renaming put→Am
open AllReadyH renaming cons→Ah,nil→Ak
open _root_.List renaming getElem_cons_succ→Aa,getElem_cons_zero→A7,getElem_toArray→Ab,mem_singleton→Et,setIfInBounds_toArray→A6,set_cons_succ→Ad,set_cons_zero→Ac
open _root_.Nat renaming lt_of_lt_of_le→Bn,zero_le→Aw
open Value renaming slice→Aj
open Region renaming ready→Hk,wanted→Bm
section
variable {col:Nat→Nat}{w w':World}{s:PS}{p q k K b b':Nat}{k1 k2 k5 key a fk fa er:Int}{rl:Nat→List Int}{r:Nat→Value}{cs vs:Array Value}{A B:Option Addr}{l:List Int}{c:Cm}{xs:List Value}
def T6 (v:Int):Prop:=v=120∨v=88∨v=115∨v=83∨v=67∨v=68∨v=112∨v=80∨v=126∨v=114∨v=105∨v=73∨v=97∨v=65∨v=82
instance (v:Int):Decidable (T6 v):=by unfold T6;infer_instance
def Yf (o v:Int):Bool:=if o=100∨o=99 then true else if o=121 then false else decide (T6 v)
theorem dM (w:World)(k1 k2 o v k5:Int):
 Calls Tryz.prog 92 #[.agg #[.int .i64 k1,.int .i64 k2,.int .i64 o,.int .i64 v,.int .i64 k5]] w fun e w'=>e=.returned (.bool (Yf o v))∧Al w w':=by
 have hx:=A4 (Al.alloc w (.cells #[.int .i64 k1,.int .i64 k2,.int .i64 o,.int .i64 v,.int .i64 k5] 87));by_cases a1:o=100
 ·subst a1
  exact I41
 by_cases a2:o=99
 ·subst a2
  exact I41
 have b1:(o==100)=false:=by simpa using a1
 have b2:(o==99)=false:=by simpa using a2
 by_cases a3:o=121
 ·subst a3
  exact I41
 have b3:(o==121)=false:=by simpa using a3
 have hc:Yf o v=decide (T6 v):=by unfold Yf;rw[if_neg (by omega),if_neg a3]
 by_cases hm:T6 v
 ·have hc':Hid (Yf o v=true):=A4 (by rw[hc];exact decide_eq_true hm)
  clear a1 a2 a3 hc;unfold T6 at hm;rcases hm with rfl|rfl|rfl|rfl|rfl|rfl|rfl|rfl|rfl|rfl|rfl|rfl|rfl|rfl|rfl
  all_goals
   go_enter Tryz.func92,Tryz.ntmps92
   exact I118
 ·have hc':Hid (Yf o v=false):=A4 (by rw[hc];exact decide_eq_false hm)
  clear a1 a2 a3 hc;unfold T6 at hm;have c120:(v==120)=false:=by
   have:v≠120:=fun e=>hm (.inl e)
   simpa using this
  have c88:(v==88)=false:=by
   have:v≠88:=fun e=>hm (.inr (.inl e))
   simpa using this
  have c115:(v==115)=false:=by
   have:v≠115:=fun e=>hm (.inr (.inr (.inl e)))
   simpa using this
  have c83:(v==83)=false:=by
   have:v≠83:=fun e=>hm (.inr (.inr (.inr (.inl e))))
   simpa using this
  have c67:(v==67)=false:=by
   have:v≠67:=fun e=>hm (.inr (.inr (.inr (.inr (.inl e)))))
   simpa using this
  have c68:(v==68)=false:=by
   have:v≠68:=fun e=>hm (.inr (.inr (.inr (.inr (.inr (.inl e))))))
   simpa using this
  have c112:(v==112)=false:=by
   have:v≠112:=fun e=>hm (.inr (.inr (.inr (.inr (.inr (.inr (.inl e)))))))
   simpa using this
  have c80:(v==80)=false:=by
   have:v≠80:=fun e=>hm (.inr (.inr (.inr (.inr (.inr (.inr (.inr (.inl e))))))))
   simpa using this
  have c126:(v==126)=false:=by
   have:v≠126:=fun e=>hm (.inr (.inr (.inr (.inr (.inr (.inr (.inr (.inr (.inl e)))))))))
   simpa using this
  have c114:(v==114)=false:=by
   have:v≠114:=fun e=>hm (.inr (.inr (.inr (.inr (.inr (.inr (.inr (.inr (.inr (.inl e))))))))))
   simpa using this
  have c105:(v==105)=false:=by
   have:v≠105:=fun e=>hm (.inr (.inr (.inr (.inr (.inr (.inr (.inr (.inr (.inr (.inr (.inl e)))))))))))
   simpa using this
  have c73:(v==73)=false:=by
   have:v≠73:=fun e=>hm (.inr (.inr (.inr (.inr (.inr (.inr (.inr (.inr (.inr (.inr (.inr (.inl e))))))))))))
   simpa using this
  have c97:(v==97)=false:=by
   have:v≠97:=fun e=>hm (.inr (.inr (.inr (.inr (.inr (.inr (.inr (.inr (.inr (.inr (.inr (.inr (.inl e)))))))))))))
   simpa using this
  have c65:(v==65)=false:=by
   have:v≠65:=fun e=>hm (.inr (.inr (.inr (.inr (.inr (.inr (.inr (.inr (.inr (.inr (.inr (.inr (.inr (.inl e))))))))))))))
   simpa using this
  have c82:(v==82)=false:=by
   have:v≠82:=fun e=>hm (.inr (.inr (.inr (.inr (.inr (.inr (.inr (.inr (.inr (.inr (.inr (.inr (.inr (.inr (e)))))))))))))))
   simpa using this
  clear hm;go_enter Tryz.func92,Tryz.ntmps92
  exact I118
theorem Je.lower {m:List Int}{at_ md fk fa:Int}{e:List Fh}(h:Je w b vs m at_ md fk fa rl e)(hb:b'≤b):Je w b' vs m at_ md fk fa rl e:=
 {
  h with
  text:=let ⟨B,q,d,h1,h2⟩:=h.text;⟨B,q,d,h1,Ay.lower h2 hb⟩
  regs:=fun j hj=>let ⟨v,h1,h2⟩:=h.regs j hj;⟨v,h1,h2.lower hb⟩
  edit:=let ⟨v,h1,h2⟩:=h.edit;⟨v,h1,h2.lower hb⟩ }
structure Dn where
 tx:List Int
 at_:Int
 md:Int
 fk:Int
 fa:Int
 rl:Nat→List Int
def Yp (l:List Int)(rl:Nat→List Int)(a fk fa:Int)(c:Cm)(d:Dn):Prop:=
 P6 l.length a c.count fk c.op∧∃ed,Jj l l.length a.toNat rl c.count c.reg (Hr c.op c.verb).1 (Hr c.op c.verb).2 c.arg fk fa d.tx d.at_ d.md d.fk d.fa d.rl ed
open Classical in
noncomputable def Pi (l:List Int)(rl:Nat→List Int)(a fk fa:Int)(c:Cm):Option Dn:=
 if h:∃d,Yp l rl a fk fa c d then some h.choose else none
def yL (o:Option Dn)(b:Nat)(vs:Array Value)(er:Int)(w:World):Prop:=
 (er=0∧∃d ed,o=some d∧Je w b vs d.tx d.at_ d.md d.fk d.fa d.rl ed)∨(er≠0∧o=none∧vs=Fi)
theorem Zf {d:Dn}(h:Pi l rl a fk fa c=some d):Yp l rl a fk fa c d:=by
 unfold Pi at h;split at h
 ·rename_i hx
  injection h with h;rw[←h];exact hx.choose_spec
 ·cases h
theorem oL (h:¬ ∃d,Yp l rl a fk fa c d):Pi l rl a fk fa c=none:=by
 unfold Pi;rw[dif_neg h]
theorem wE {d:Dn}(h:Yp l rl a fk fa c d):Pi l rl a fk fa c=some d:=by
 have hx:∃d,Yp l rl a fk fa c d:=⟨d,h⟩;unfold Pi;rw[dif_pos hx];obtain⟨hv,ed,h1⟩:=h;obtain⟨_,ed',h2⟩:=hx.choose_spec;obtain⟨e1,e2,e3,e4,e5,e6,_⟩:=h2.one h1 (Ms hv.1.2.1 hv.1.2.2);generalize hx.choose=x at*;obtain⟨x1,x2,x3,x4,x5,x6⟩:=x;obtain⟨d1,d2,d3,d4,d5,d6⟩:=d;simp only at e1 e2 e3 e4 e5 e6;rw[e1,e2,e3,e4,e5,e6]
theorem yS {n k:Nat}{rs:Array Value}(hl:Av w 0 A n k l)(wl:∀x∈l,(Lit.int .i64 x).wf=true)(hr:Ka w rs rl):
 Calls Tryz.prog 91 #[.agg #[.slice A n k,.int .i64 a],.agg rs,.agg #[.int .i64 fk,.int .i64 fa],.agg (Ma c)] w fun e w'=>∃u,e=.returned u∧(∃vs er,u=.tuple #[.agg vs,.int .i64 er]∧yL (Pi l rl a fk fa c) w.heap.size vs er w')∧Al w w':=by
 have hn:l.length=n:=hl.ints.len;refine(sN hl.ints wl (Ay.nocap' hl) hr (a:=a) (fk:=fk) (fa:=fa) (k1:=c.count) (k2:=c.reg) (k3:=c.op) (k4:=c.verb) (k5:=c.arg)).mono ?_
 rintro e w' ⟨hx,⟨hno,er,her,rfl⟩|⟨vs,m,at_,md,zk,za,rl',ed,rfl,hv,hres,hrel⟩⟩
 ·refine⟨_,rfl,⟨_,er,rfl,.inr ⟨her,oL fun⟨d,hv,ed,hrel⟩=>hno ?_,rfl⟩⟩,hx⟩
  rw[hn]at hv hrel;exact⟨hv,hrel.ok (fun h0=>(Wh h0).1)⟩
 ·refine⟨_,rfl,⟨_,0,rfl,.inl ⟨rfl,⟨m,at_,md,zk,za,rl'⟩,ed,?_,hres.lower (by omega)⟩⟩,hx⟩
  rw[←hn]at hv hrel;exact wE ⟨hv,ed,hrel⟩
theorem De {P:Program}{o:Oper}{a:Act}(ty:TypeId)(x:Operand)(ho:o.op=.load ty x)(g off n:Nat)(hx:a.eval x=.pointer (some ⟨g,off,none⟩)){t:TypeId}(hg:An w g t cs)
 {vs:Array Value} (hv:cs.extract off (off+n)=vs) {d:TypeDesc} (hu:P.underlying ty=some d) (hd:(match d with|.struct _|.array _ _=>true|_=>false)=true) (hi:(P.info? ty).map (·.size)=some vs.size):
 (execOp a.eval o).run P w=.ok (.value (.agg vs)) w:=by
 have h:=Hp (P:=P) w g off t ty cs vs (0,0) d hg (fun j u hj=>by
  rw[←hv,Array.getElem?_extract]at hj;split at hj
  ·exact hj
  ·cases hj) hu hd hi
 unfold execOp;simp only[ho,hx,Instr.loadAt,Instr.sureAddr,Sem.run_bind,Sem.run_pure,Result.andThen_ok,h]
def kH (B:Option Addr)(q k:Nat)(r:Nat→Value)(e:Value)(d:Dn):Array Value:=#[.slice B q k,.int .i64 d.at_,r 0,r 1,r 2,r 3,r 4,r 5,r 6,r 7,r 8,r 9,r 10,r 11,r 12,r 13,r 14,r 15,r 16,r 17,r 18,r 19,r 20,r 21,r 22,r 23,r 24,r 25,r 26,.int .i64 d.fk,.int .i64 d.fa,.int .i64 d.md,e]
structure Nm (w:World)(b:Nat)(B:Option Addr)(q k:Nat)(r:Nat→Value)(d:Dn):Prop where
 text:Av w b B q k d.tx
 regs:∀j,j<27→Bg w b (r j) (d.rl j)
theorem Nm.ext {d:Dn}(h:Nm w b B q k r d)(he:Al w w'):Nm w' b B q k r d:=⟨h.text.ext he,fun j hj=>(h.regs j hj).ext he⟩
theorem Nm.lower {d:Dn}(h:Nm w b B q k r d)(hb:b'≤b):Nm w b' B q k r d:=⟨Ay.lower h.text hb,fun j hj=>(h.regs j hj).lower hb⟩
theorem qS {b e z n c:Nat}(h:Ay w b e z A n c xs)(hw:∀k,b≤k→k<w.heap.size→w'.heap[k]? = w.heap[k]?):Ay w' b e z A n c xs:=
 Ay.same h fun k hk=>hw k (Ay.blk h k hk).1 (Ay.blk h k hk).2
theorem Nm.win {d:Dn}(h:Nm w b B q k r d)(hw:∀k,b≤k→k<w.heap.size→w'.heap[k]? = w.heap[k]?):Nm w' b B q k r d:=
 ⟨qS h.text hw,fun j hj=>(h.regs j hj).win hw⟩
theorem eP {base e z n c g t:Nat}(h:Ay w base e z A n c xs)(hb:An w g t cs)(hne:t≠e)(us:Array Value):Ay (w.setRow g us) base e z A n c xs:=
 Ay.same h fun k hk=>Go.setRow_other w g k us fun e=>Mh h hb hne (by rw[hk,e])
theorem Nm.row {b g t:Nat}{d:Dn}(h:Nm w b B q k r d)(hb:An w g t cs)(ht:t≠3)(us:Array Value):Nm (w.setRow g us) b B q k r d:=
 ⟨eP h.text hb ht us,fun j hj=>by
  obtain⟨A,n,c,e,h1,h2⟩:=h.regs j hj;exact⟨A,n,c,e,eP h1 hb ht us,h2⟩⟩
theorem qJ {d:Dn}{ed:List Fh}(h:Je w b vs d.tx d.at_ d.md d.fk d.fa d.rl ed):∃B q k r e,vs=kH B q k r e d∧Nm w b B q k r d∧vs.all (·.oneCell')=true:=by
 obtain⟨B,q,k,h1,h2⟩:=h.text;obtain⟨e,h3,_⟩:=h.edit;have hr:∀j,j<27→vs[2+j]? = some (vs[2+j]?.getD undef)∧Bg w b (vs[2+j]?.getD undef) (d.rl j):=fun j hj=>by
  obtain⟨v,e1,e2⟩:=h.regs j hj;rw[e1];exact⟨rfl,e2⟩
 refine⟨B,q,k,fun j=>vs[2+j]?.getD undef,e,?_,⟨h2,fun j hj=>(hr j hj).2⟩,h.one⟩
 refine Array.ext_getElem? fun i=>?_
 by_cases hi:33≤i
 ·rw[Array.getElem?_eq_none (by rw[h.size];exact hi),Array.getElem?_eq_none (by show 33≤i;exact hi)]
 ·match i,hi with
  |0,_=>exact h1
  |1,_=>exact h.oat
  |29,_=>exact h.c29
  |30,_=>exact h.c30
  |31,_=>exact h.c31
  |32,_=>exact h3
  |2,_=>exact(hr 0 (by decide)).1
  |3,_=>exact(hr 1 (by decide)).1
  |4,_=>exact(hr 2 (by decide)).1
  |5,_=>exact(hr 3 (by decide)).1
  |6,_=>exact(hr 4 (by decide)).1
  |7,_=>exact(hr 5 (by decide)).1
  |8,_=>exact(hr 6 (by decide)).1
  |9,_=>exact(hr 7 (by decide)).1
  |10,_=>exact(hr 8 (by decide)).1
  |11,_=>exact(hr 9 (by decide)).1
  |12,_=>exact(hr 10 (by decide)).1
  |13,_=>exact(hr 11 (by decide)).1
  |14,_=>exact(hr 12 (by decide)).1
  |15,_=>exact(hr 13 (by decide)).1
  |16,_=>exact(hr 14 (by decide)).1
  |17,_=>exact(hr 15 (by decide)).1
  |18,_=>exact(hr 16 (by decide)).1
  |19,_=>exact(hr 17 (by decide)).1
  |20,_=>exact(hr 18 (by decide)).1
  |21,_=>exact(hr 19 (by decide)).1
  |22,_=>exact(hr 20 (by decide)).1
  |23,_=>exact(hr 21 (by decide)).1
  |24,_=>exact(hr 22 (by decide)).1
  |25,_=>exact(hr 23 (by decide)).1
  |26,_=>exact(hr 24 (by decide)).1
  |27,_=>exact(hr 25 (by decide)).1
  |28,_=>exact(hr 26 (by decide)).1
  |n+33,h=>exact absurd (by omega) h
theorem Db.paint {p a b:Nat}{v:SV}(h:Db w col p v s)(hF:∀k,a≤k→k<b→col k=0)(hb:b≤w.heap.size):
 Db w (fun k=>if a≤k∧k<b then 1 else col k) p v s:=by
 have hz:∀k c,c≠0→col k=c→(if a≤k∧k<b then 1 else col k)=c:=fun k c hc e=>by
  rw[if_neg fun hk=>hc (e.symm.trans (hF k hk.1 hk.2))]
  exact e
 obtain⟨⟨h1,h2,h3,h4,h5⟩,h6,h7⟩:=h;refine⟨⟨h1,hz p 7 (by decide) h2,h3.mono fun k _ e=>hz k 1 (by decide) e,?_,fun k hk=>?_⟩,?_,?_⟩
 ·rcases hv:v.now with _|x<;>rcases hs:s.now with _|⟨c,l⟩<;>rw[hv,hs]at h4
  ·trivial
  ·exact h4
  ·exact h4
  ·obtain⟨g,y,e,g1,g2,g3,g4⟩:=h4
   exact⟨g,y,e,hz g 2 (by decide) g1,g2,g3,fun k hk=>hz k 3 (by decide) (g4 k hk)⟩
 ·by_cases hk':a≤k∧k<b
  ·omega
  ·have hk:(if a≤k∧k<b then 1 else col k)≠0:=hk
   rw[if_neg hk']at hk;exact h5 k hk
 ·obtain⟨A,n,c,xs,e,k1,k2,k3,k4⟩:=h6
  exact⟨A,n,c,xs,e,k1,k2,fun g hg=>hz g 4 (by decide) (k3 g hg),k4.mono fun k _ e=>hz k 5 (by decide) e⟩
 ·obtain⟨A,n,c,e,k1,k2⟩:=h7
  exact⟨A,n,c,e,k1,fun g hg=>hz g 6 (by decide) (k2 g hg)⟩
theorem Db.chg {v:SV}(h:Db w col p v s)(c:Cm):
 Br p w col { s with now:=some (c,[]) } ((w.alloc (.cells (Ma c++#[nl]) 112)).setCell ⟨p,47,none⟩ (.pointer (some ⟨w.heap.size,0,none⟩))):=by
 have hx:=Al.alloc w (.cells (Ma c++#[nl]) 112);have hb:=An.new w 112 (Ma c++#[nl]);obtain⟨hm0,ht0⟩:=h.grow hx 2;have hq:Go.Proofs.YtiahhfglhlgfiaaGreat.grow col w.heap.size (w.alloc (.cells (Ma c++#[nl]) 112)).heap.size 2 w.heap.size=2:=Hn (Nat.le_refl _) hb.lt;have hne:p≠w.heap.size:=fun e=>by have:=h.ses.blk.lt;omega
 generalize Go.Proofs.YtiahhfglhlgfiaaGreat.grow col w.heap.size (w.alloc (.cells (Ma c++#[nl]) 112)).heap.size 2=col1 at*;generalize w.alloc (.cells (Ma c++#[nl]) 112)=W at*;have h7:=hm0.ses.own;have cc:=(Dh.start (Al.refl W) hm0.ses.blk).set 47 (.pointer (some ⟨w.heap.size,0,none⟩));have hm:∀c,c≠7→∀k,k<W.heap.size→k=p→col1 k≠c:=fun c hc k _ e=>by rw[e,h7];exact fun e=>hc e.symm
 exact⟨col1,{ v with now:=some ⟨w.heap.size,0,none⟩ },⟨⟨cc.to (by kernel_rfl),h7,(hm0.old cc.alt).imp fun _ h=>⟨h.1,h.2,h.3,h.4,h.5,h.6,h.7,h.8⟩,
  ⟨w.heap.size,nl,rfl,hq,cc.alt.blk hb (fun e=>hne e.symm),Bg.nil _ _,fun g hg=>by cases hg⟩,fun k hk=>Nat.lt_of_lt_of_le (hm0.ses.dom k hk) cc.alt.size⟩,
  hm0.told.turn cc.alt (fun k h1 h2=>⟨hm 4 (by decide) k h1 h2,hm 5 (by decide) k h1 h2⟩) fun _ _=>rfl,hm0.vis.turn cc.alt (hm 6 (by decide)) fun _ _=>rfl⟩,ht0.trans ⟨cc.alt.mono fun k _ e=>by rw[e,h7];decide,fun _ _ h=>h,fun _ _ h=>h⟩⟩
noncomputable def G7 (s:PS)(c:Cm):PS:=if Yf c.op c.verb then { Pm s with now:=some (c,[]) }else s
def Fz (s:PS)(d:Dn):PS:={ s with tx:=d.tx,at_:=d.at_,mode:=d.md,rl:=d.rl,fk:=d.fk,fa:=d.fa }
def Pn (s:PS):PS:=if s.mode=0 then { s with last:=s.now.or s.last,now:=none }else s
noncomputable def Ni (s:PS)(c:Cm)(d:Dn):PS:=Pn (Fz (G7 s c) d)
def pT (o:Option Dn)(b:Nat)(vs:Array Value)(er:Int)(w:World):Prop:=
 vs.size=33∧vs.all (·.oneCell')=true∧((er=0∧∃d B q k r e,o=some d∧vs=kH B q k r e d∧Nm w b B q k r d)∨(er≠0∧o=none))
theorem yL.v {o:Option Dn}(h:yL o b vs er w)(hb:b'≤b):pT o b' vs er w:=by
 rcases h with⟨h0,d,ed,h1,h2⟩|⟨h0,h1,h2⟩
 ·obtain⟨B,q,k,r,e,e1,e2,e3⟩:=qJ h2
  exact⟨h2.size,e3,.inl ⟨h0,d,B,q,k,r,e,h1,e1,e2.lower hb⟩⟩
 ·exact⟨by rw[h2];rfl,by rw[h2];exact Qa,.inr ⟨h0,h1⟩⟩
theorem pT.ext {o:Option Dn}(h:pT o b vs er w)(he:Al w w'):pT o b vs er w':=
 ⟨h.1,h.2.1,h.2.2.imp (fun⟨h0,d,B,q,k,r,e,h1,h2,h3⟩=>⟨h0,d,B,q,k,r,e,h1,h2,h3.ext he⟩) id⟩
theorem pT.row {o:Option Dn}{b g t:Nat}(h:pT o b vs er w)(hb:An w g t cs)(ht:t≠3)(us:Array Value):pT o b vs er (w.setRow g us):=
 ⟨h.1,h.2.1,h.2.2.imp (fun⟨h0,d,B,q,k,r,e,h1,h2,h3⟩=>⟨h0,d,B,q,k,r,e,h1,h2,h3.row hb ht us⟩) id⟩
theorem bS (h:vs.size=cs.size):Lj cs 0 vs=vs:=by
 refine Array.ext_getElem? fun i=>?_
 rw[Cs (by omega),if_neg (Nat.not_lt_zero i)]
 split
 ·rfl
 ·rw[Array.getElem?_eq_none (by omega),Array.getElem?_eq_none (by omega)]
theorem Nd (r:Nat→Value)(i:Nat)(hi:i<27):(L9 r)[i]? = some (r i):=by
 exact I8
theorem bV (h:s.now=none):Pn s=s:=by
 unfold Pn;split
 ·cases s;simp only at h;subst h;rfl
 ·rfl
theorem qU (h:∀j,j<27→Bg w b (r j) (rl j)):(L9 r).all (·.oneCell')=true:=
 Ka.one (w:=w) (rs:=rl) ⟨rfl,fun i hi=>⟨r i,Nd r i hi,(h i hi).sl⟩⟩
theorem Tn {g t g':Nat}(h:An w g t cs)(hne:g'≠g)(i:Nat)(a:Value):An (w.setCell ⟨g',i,none⟩ a) g t cs:=Bh h hne i a
theorem tX {w x:World}{t:TypeId}(_:Al w (x.alloc (.cells cs t))):∃g,g=x.heap.size∧An (x.alloc (.cells cs t)) g t cs:=⟨_,rfl,An.new x t cs⟩
theorem wA {w W2 W4:World}{col col4:Nat→Nat}{p g5:Nat}{v v4:SV}{s s4:PS}{e:Value}{d:Dn}(h:Db w col p v s)(he:Al w W2)(hb:An W2 g5 161 (kH B q k r e d))(hg:w.heap.size≤g5)
 (hd:Nm W2 w.heap.size B q k r d) (hm:Db W4 col4 p v4 s4) (ht:Kp W2 col W4 col4):
 An W4 g5 161 (kH B q k r e d)∧p≠g5∧∃col5,Db W4 col5 p v4 s4∧Kp w col W4 col5∧Ht (fun k=>col5 k=1) W4 fun x=>Nm x 0 B q k r d:=by
 have hz:∀k,w.heap.size≤k→col k=0:=fun k hk=>h.ses.lt hk
 have hz4:∀k,w.heap.size≤k→k<W2.heap.size→col4 k=0:=fun k h1 h2=>Decidable.byContradiction fun hn=>ht.2 k h2 hn (hz k h1)
 have hps:=h.ses.blk.lt;refine⟨ht.1.blk hb fun hn=>hn.1 (hz _ hg),by omega,_,hm.paint (a:=w.heap.size) (b:=W2.heap.size) hz4 ht.1.size,⟨?_,fun k hk hn=>?_,fun k hk e=>(if_neg (by omega)).trans (ht.3 k (Bn hk he.hsize) e)⟩,fun M w' ha hk=>?_⟩
 ·exact(he.alt _).trans ht.1 fun _ _ h=>h
 ·have hn:(if w.heap.size≤k∧k<W2.heap.size then 1 else col4 k)≠0:=hn
  rw[if_neg (by omega)]at hn
  exact ht.2 k (Bn hk he.hsize) hn
 ·refine(hd.win fun k h1 h2=>?_).lower (Aw _)
  have h4:=Bn h2 ht.1.size;exact(ha.block k h4 (hk k h4 (if_pos ⟨h1,h2⟩))).trans (ht.1.block k h2 fun hn=>hn.1 (hz k h1))
theorem aR {v:SV}(h:Db w col p v s)(wl:∀x∈s.tx,(Lit.int .i64 x).wf=true)(hl:s.tx.length≤200)(hb:s.past.length≤30)(hq:s.told.length≤1000000000000)
 (hz:∀d,Pi s.tx s.rl s.at_ s.fk s.fa c=some d→d.tx.length≤4096):
 Calls Tryz.prog 54 #[.pointer (some ⟨p,0,none⟩),.agg (Ma c)] w fun e w'=>
  (Pi s.tx s.rl s.at_ s.fk s.fa c=none∧e=.returned (.bool false)∧Br p w col (Fe s) w')∨(∃d,Pi s.tx s.rl s.at_ s.fk s.fa c=some d∧e=.returned (.bool true)∧Br p w col (Ni s c d) w'):=by
 have hx:=Al.alloc w (.cells (Ma c) 87);have hc0:=An.new w 87 (Ma c);have H:=A4 h;have HBL:Hid (∀wq,Al w wq→_):=A4 fun wq he=>Js (h.ext he) hq
 have HSV:Hid (∀wq,Al w wq→_):=A4 fun wq he=>eJ (h.ext he) hb
 have HLN:Hid (∀wq,Al w wq→Calls Tryz.prog 15 #[.pointer (some ⟨p,0,none⟩)] wq fun e w'=>∃u,e=.returned u∧(∃A n c,u=.agg #[.slice A n c,.int .i64 s.at_]∧Av w' wq.heap.size A n c s.tx)∧Al wq w'):=
  A4 fun wq he=>Su (h.ext he) (by omega)
 have hrg:=h.ses.dat.here.regs.regs;have HDO:Hid (∀wq A n k,Al w wq→Av wq 0 A n k s.tx→Calls Tryz.prog 91 #[.agg #[.slice A n k,.int .i64 s.at_],.agg (L9 v.r),.agg #[.int .i64 s.fk,.int .i64 s.fa],.agg (Ma c)] wq fun e w'=>
  ∃u,e=.returned u∧(∃vs er,u=.tuple #[.agg vs,.int .i64 er]∧pT (Pi s.tx s.rl s.at_ s.fk s.fa c) w.heap.size vs er w')∧Al wq w'):=
  A4 fun wq A n k he ho=>(yS ho wl (hrg.ext he)).mono fun e w' ⟨u,h1,⟨vs,er,h2,h3⟩,h4⟩=>⟨u,h1,⟨vs,er,h2,h3.v he.hsize⟩,h4⟩
 have HP:=A4 (fun wq (he:Al w wq)=>h.ses.blk.ext he)
 have HZ:=A4 hz;have hlt:=h.ses.blk.lt;clear h wl hl hb hq hz hrg;go_enter Tryz.func54,Tryz.ntmps54
 go_upto_region 1 with fail
 generalize w.alloc (.cells (Ma c) 87)=Wa at*;have hcb:An Wa.drew w.heap.size 87 (Ma c):=hc0;have hxd:=hx.to_drew;refine wp_region_held_drew (S:=fun w'=>Al w w'∧An w' w.heap.size 87 (Ma c)) (by kernel_rfl) ⟨hxd,hcb⟩ (fun hS=>?_)
 clear hc0 hx hcb hxd;refine B8 (i:=0) (v:=(.pointer (some ⟨p,0,none⟩))) rfl hS ?_
 refine B8 (i:=2) (v:=(.pointer (some ⟨p,0,none⟩))) rfl hS ?_
 refine B8 (i:=3) (v:=(.pointer (some ⟨p,0,none⟩))) rfl hS ?_
 refine B8 (i:=4) (v:=(.pointer (some ⟨p,3,none⟩))) rfl hS ?_
 refine F4 (i:=5) (v:=(.agg (L9 v.r))) rfl (fun w' hSw=>by exact De 40 (.tmp 12) rfl p 3 27 rfl (HP.out _ hSw.1) (by kernel_rfl) Tryz.underlying40 rfl (by kernel_rfl)) hS ?_
 refine B8 (i:=6) (v:=(.pointer (some ⟨p,0,none⟩))) rfl hS ?_
 refine B8 (i:=7) (v:=(.pointer (some ⟨p,0,none⟩))) rfl hS ?_
 refine B8 (i:=8) (v:=(.pointer (some ⟨p,30,none⟩))) rfl hS ?_
 refine F4 (i:=9) (v:=(.agg #[.int .i64 s.fk,.int .i64 s.fa])) rfl (fun w' hSw=>by exact De 38 (.tmp 16) rfl p 30 2 rfl (HP.out _ hSw.1) (by kernel_rfl) Tryz.underlying38 rfl (by kernel_rfl)) hS ?_
 refine F4 (i:=10) (v:=(.agg (Ma c))) rfl (fun w' hSw=>by exact De 87 (.tmp 3) rfl w.heap.size 0 5 rfl hSw.2 (by kernel_rfl) Tryz.underlying87 rfl (by kernel_rfl)) hS ?_
 generalize Wa.drew=cur at*
 iterate 3
  all_goals (first|refine wpAnyH_ready (rs:=[1,15]) (by decide +kernel) (by simp) (Ah rfl (fun K hK=>?_) (Ah rfl (fun K hK=>?_) Ak))|refine wpAnyH_ready (rs:=[11,15]) (by decide +kernel) (by simp) (Ah rfl (fun K hK=>?_) (Ah rfl (fun K hK=>?_) Ak))|refine wpAnyH_ready (rs:=[1]) (by decide +kernel) (by simp) (Ah rfl (fun K hK=>?_) Ak)|refine wpAnyH_ready (rs:=[11]) (by decide +kernel) (by simp) (Ah rfl (fun K hK=>?_) Ak)|refine wpAnyH_ready (rs:=[15]) (by decide +kernel) (by simp) (Ah rfl (fun K hK=>?_) Ak))
  all_goals (first
   |(
    refine C9 rfl 91 #[.agg #[.slice A n k,.int .i64 s.at_],.agg (L9 v.r),.agg #[.int .i64 s.fk,.int .i64 s.fa],.agg (Ma c)] rfl (by kernel_rfl) (fun u w'=>∃vs er,u=.tuple #[.agg vs,.int .i64 er]∧pT (Pi s.tx s.rl s.at_ s.fk s.fa c) w.heap.size vs er w') (HDO.out _ A n k hS.1 hoL) ?_
    rintro u w3 ⟨vs,er,rfl,hR⟩ hE;refine hK.out _ _ ⟨hS.1.trans hE,hS.2.ext hE⟩ (fun hS'=>?_)
    clear hK K hoL
    try replace hb5:=An.ext hb5 hE
    replace hS:=hS';clear hS' hE
    try simp only[Ab,A7,Aa,Am,A6,Ac,Ad]
    refine B8 (i:=12) (v:=.tuple #[.agg vs,.int .i64 er]) rfl hS ?_
    refine B8 (i:=13) (v:=.agg vs) rfl hS ?_
    refine wpAnyH_take (i:=14) (v:=.int .i64 er) rfl (by kernel_rfl) (by kernel_rfl) (by kernel_rfl) (fun _ _ _ h=>h) (Or.inl ⟨by rfl,by(intro w' hSw;go_simp)⟩) hS ?_
    try simp only[Ab,A7,Aa,Am,A6,Ac,Ad])
   |(
    refine C9 rfl 15 #[.pointer (some ⟨p,0,none⟩)] rfl (by kernel_rfl) (fun u w'=>∃A n k,u=.agg #[.slice A n k,.int .i64 s.at_]∧Av w' (World.heap _).size A n k s.tx) (HLN.out _ hS.1) ?_
    rintro u w2 ⟨A,n,k,rfl,hoL⟩ hE;refine hK.out _ _ ⟨hS.1.trans hE,hS.2.ext hE⟩ (fun hS'=>?_)
    clear hK K;replace hoL:Av _ 0 A n k s.tx:=Ay.lower hoL (Aw _)
    try replace hb5:=An.ext hb5 hE
    replace hS:=hS';clear hS' hE
    try simp only[Ab,A7,Aa,Am,A6,Ac,Ad])
   |(
    go_simp
    refine hK.out _ _ ⟨hS.1.to_alloc (.cells Fi 161),hS.2.ext (Al.alloc _ _)⟩ (fun hS'=>?_)
    clear hK K;have hE:=L2 hS'.1
    try replace hoL:=Av.ext hoL hE
    try replace hR:=hR.ext hE
    obtain⟨g5,hg5,hb5⟩:=tX hS'.1;have hz5:=hS.1.hsize;rw[←hg5]at hz5 ⊢;clear hg5;replace hS:=hS';clear hS' hE;generalize World.alloc _ _=nx at*
    try simp only[Ab,A7,Aa,Am,A6,Ac,Ad]))
 all_goals
  have hsz:=hR.1;have hon:=hR.2.1;refine wpAnyH_ready (rs:=[16]) (by decide +kernel) (by simp) (Ah rfl (fun K hK=>?_) Ak)
  refine Bv rfl 161 (.tmp 5) (.tmp 20) rfl _ 0 vs rfl rfl 161 Fi hb5 (by rw[hsz];kernel_rfl) (by rw[hsz];decide) hon ?_
  rw[bS (show vs.size=Fi.size from hsz)]
  have hR':=hR.row hb5 (by decide) vs
  have hb5':=hb5.setRow vs;have hn5:(_:Nat)≠w.heap.size:=Ey hb5 hS.2 (by decide)
  have hS':_∧_:=⟨hS.1.setRow hz5 vs,hS.2.setRow_other vs (fun e=>hn5 e.symm)⟩
  refine hK.out _ _ hS' (fun hS=>?_)
  clear hK K hS' hb5 hR;generalize World.setRow _ _ _=W1 at*
  try simp only[Ab,A7,Aa,Am,A6,Ac,Ad]
  refine wpAnyH_ready (rs:=[17]) (by decide +kernel) (by simp) (Ah rfl (fun K hK=>?_) Ak)
  go_simp
  refine hK.out _ _ hS (fun _=>?_)
  clear hK K;refine wpAnyH_done (by kernel_rfl) ?_ _
  rcases hR'.2.2 with⟨rfl,d,B,q,k,r,e,hd,rfl,hDn⟩|⟨her,hd⟩
  ·have hone:(L9 r).all (·.oneCell')=true:=by
    have h9:=hDn.regs;exact qU h9
   have HW:=A4 hS.1;have HC:=A4 hS.2;have HB5:=A4 hb5';have HD:=A4 hd;have HDn:=A4 hDn;have HZ5:=A4 hz5;have e0:W1.cell? ⟨w.heap.size,0,none⟩=some (.int .i64 c.count):=hS.2.cell 0;have e1:W1.cell? ⟨w.heap.size,1,none⟩=some (.int .i64 c.reg):=hS.2.cell 1;have e2:W1.cell? ⟨w.heap.size,2,none⟩=some (.int .i64 c.op):=hS.2.cell 2;have e3:W1.cell? ⟨w.heap.size,3,none⟩=some (.int .i64 c.verb):=hS.2.cell 3;have e4:W1.cell? ⟨w.heap.size,4,none⟩=some (.int .i64 c.arg):=hS.2.cell 4;clear hb5' hR' hd hS hDn hz5 hsz hon hn5;go_wp2_with fail
   refine(dM W1 c.count c.reg c.op c.verb c.arg).mono ?_
   rintro e' W2 ⟨rfl,he2⟩;have HE2:=A4 he2;clear e0 e1 e2 e3 e4 he2;by_cases hcb:Yf c.op c.verb=true
   ·have N0:=trivial;exact K0
   ·have N1:=trivial;exact K0
  ·have hek:(er !=0)=true:=by simpa using her
   have HBl:=A4 (HBL.out _ hS.1);have HT:=A4 (show Kp w col W1 col from⟨hS.1.alt _,fun _ _ h=>h,fun _ _ h=>h⟩)
   have HD:=A4 hd;clear hb5' hR' her hd hS;go_wp2_with fail
   refine HBl.out.mono ?_
   rintro e w6 ⟨rfl,hm⟩;have HMm:=A4 (Br.trans HT.out hm);clear hm;go_wp2_with fail
   go_ret
   exact .inl ⟨HD.out,rfl,HMm.out⟩
structure pK (K T:Nat)(s:PS):Prop where
 line:pL s
 mode:s.mode=1∨s.mode=2
 keys:tU K s
 told:s.told.length≤T
theorem pK.typed {K T:Nat}(h:pK K T s)(hk:key≠27):pK (K+1) (T+1) (Eb s key):=by
 obtain⟨⟨h1,h2,h3⟩,h4,h5,h6⟩:=h;unfold Eb;rw[if_neg hk];cases he:Hy s.mode s.tx s.at_.toNat key with
 |none=>exact⟨⟨h1,h2,h3⟩,h4,fun x hx=>Nat.le_succ_of_le (h5 x hx),by show(s.told++[_]).length≤_;simp;omega⟩
 |some r=>
  obtain⟨m,b⟩:=r;have hb:=Tx he h1 (by omega)
  refine⟨⟨hb.1,Int.natCast_nonneg b,by show(b:Int)≤(m.length:Int);omega⟩,h4,fun x hx=>?_,Nat.le_succ_of_le h6⟩
  have hx:s.now.map (fun x=>(x.1,x.2++[key]))=some x:=hx
  cases hn:s.now with
  |none=>rw[hn]at hx;cases hx
  |some y=>
   rw[hn]at hx;injection hx with hx;rw[←hx];have:=h5 y hn;simp;omega
def keysF (s:PS)(ks:List Int):PS:=ks.foldl Eb s
theorem iN (s:PS)(ks:List Int)(k:Int):keysF s (ks++[k])=Eb (keysF s ks) k:=by
 unfold keysF;rw[List.foldl_append]
 rfl
theorem pK.keysF {K T:Nat}(h:pK K T s):∀{ks:List Int},(∀k∈ks,k≠27)→pK (K+ks.length) (T+ks.length) (keysF s ks):=by
 intro ks
 induction ks generalizing s K T with
 |nil=>exact fun _=>h
 |cons k ks ih=>
  intro hk;have h1:=ih (h.typed (hk k List.mem_cons_self)) (fun x hx=>hk x (List.mem_cons_of_mem _ hx))
  have e:Go.Proofs.YtiahhfglhlgfiaaGreat.keysF s (k::ks)=Go.Proofs.YtiahhfglhlgfiaaGreat.keysF (Eb s k) ks:=rfl;exact I67
def Cf (c:Cm)(n:Int):Cm:=if 0<n then { c with count:=n }else c
noncomputable def Gr (s:PS)(n:Int):PS:=
 match s.last with
 |none=>Fe s
 |some (c,ks)=>
  match Pi s.tx s.rl s.at_ s.fk s.fa (Cf c n)with
  |none=>Fe s
  |some d=>if(Ni s (Cf c n) d).mode=0 then Ni s (Cf c n) d else Eb (keysF (Ni s (Cf c n) d) ks) 27
theorem Ht.chg_own {F:Nat→Prop}{q m k:Nat}{ks:List Int}(h:Ht F w fun x=>Ve x (some ⟨q,0,none⟩) (some (c,ks)))(hb:An w q 112 (Ma c++#[.slice A m k]))(ho:Av w 0 A m k ks)(hm:0<m):
 ∀g,(Aj A m k).ownBlock=some g→F g:=by
 intro g hg;refine Classical.byContradiction fun hn=>?_
 have ho':=ho;obtain⟨_,⟨_,h0⟩|⟨g',cap,cur,hv,_,hgb,_⟩⟩:=ho'
 ·omega
 ·rw[hv]at hg
  have hg:some g'=some g:=hg;injection hg with hg;subst hg;have hA:=Fp.row (t:=3) hgb (by decide) #[]
  obtain⟨q',y',e',hb',hy'⟩:=h _ _ hA (fun k _ hF e=>hn (e▸hF))
  injection e' with e';subst e';have hne:q≠g':=Ey hb (show An w g' 3 _ from hgb) (by decide)
  have hl:=congrArg Array.toList ((hb.setRow_other #[] hne).inj hb').2;have hy:Aj A m k=y':=by simpa[Ma]using hl
  obtain⟨A2,n2,c2,e2,ho2,_⟩:=hy';rw[←hy,hv]at e2;rw[hv]at hy;obtain⟨h1,⟨h3,h0⟩|⟨g2,cap2,cur2,hv2,_,hgb2,_,_,_,ht⟩⟩:=ho2
  ·rw[←e2]at h3
   cases h3
  ·rw[←e2]at hv2
   injection hv2 with hA2 hn2 hc2;injection hA2 with hA2;injection hA2 with hA2;subst hA2;have hz:=((show An w g' 3 _ from hgb).setRow #[]).inj (show An _ g' 3 _ from hgb2)
   rw[←hz.2]at ht;have hks:=ho.ints.len;simp at ht;have:ks=[]:=by simpa using ht.symm
   rw[this]at hks;simp at hks;omega
theorem gM {v:SV}{n:Int}(h:Db w col p v s)(wl:∀x∈s.tx,(Lit.int .i64 x).wf=true)(hl:s.tx.length≤200)(hb:s.past.length≤30)(hq:s.told.length≤500000000000)
 (hz:∀c d,Pi s.tx s.rl s.at_ s.fk s.fa c=some d→d.tx.length≤4096)
 (hD:∀c ks d,s.last=some (c,ks)→Pi s.tx s.rl s.at_ s.fk s.fa (Cf c n)=some d→(Ni s (Cf c n) d).mode≠0→pK K 500000000000 (Ni s (Cf c n) d)) (hks:∀c ks,s.last=some (c,ks)→(∀k∈ks,k≠27)∧ks.length≤2000000) (hK:K≤2000000):
 Calls Tryz.prog 57 #[.pointer (some ⟨p,0,none⟩),.int .i64 n] w fun e w'=>e=.returned (.tuple #[])∧Br p w col (Gr s n) w':=by
 have hd:=h.ses.dat.here;have d46:w.cell? ⟨p,46,none⟩=some (.pointer v.last):=h.ses.blk.cell 46;have hc:=hd.last;rcases hv:v.last with _|a<;>rcases hs:s.last with _|⟨c,ks⟩<;>rw[hv,hs]at hc
 ·rw[hv]at d46
  have HB:=A4 (Js h (by omega))
  have HF:Hid (Gr s n=Fe s):=A4 (by unfold Gr;rw[hs])
  clear h wl hl hb hq hz hD hks hd hc;go_enter Tryz.func57,Tryz.ntmps57
  go_wp2_with fail
  refine HB.out.mono ?_
  rintro e w1 ⟨rfl,h1⟩;have H1:=A4 h1;clear h1;exact I90
 ·exact hc.elim
 ·exact hc.elim
 ·obtain⟨q,y,rfl,hqb,hy⟩:=hc
  obtain⟨A,m,k,rfl,hyo,hyn⟩:=hy;rw[hv]at d46;have e0:w.cell? ⟨q,0,none⟩=some (.int .i64 c.count):=hqb.cell 0;have e1:w.cell? ⟨q,1,none⟩=some (.int .i64 c.reg):=hqb.cell 1;have e2:w.cell? ⟨q,2,none⟩=some (.int .i64 c.op):=hqb.cell 2;have e3:w.cell? ⟨q,3,none⟩=some (.int .i64 c.verb):=hqb.cell 3;have e4:w.cell? ⟨q,4,none⟩=some (.int .i64 c.arg):=hqb.cell 4;have e5:w.cell? ⟨q,5,none⟩=some (.slice A m k):=hqb.cell 5;have hlq:=hqb.lt;have hlp:=h.ses.blk.lt;have B4:=An.new w 112 #[.int .i64 c.count,.int .i64 c.reg,.int .i64 c.op,.int .i64 c.verb,.int .i64 c.arg,.slice A m k];have X4:=Al.alloc w (.cells #[.int .i64 c.count,.int .i64 c.reg,.int .i64 c.op,.int .i64 c.verb,.int .i64 c.arg,.slice A m k] 112);have hdc:Ht (fun k=>col k=1) w fun x=>Ve x (some ⟨q,0,none⟩) (some (c,ks)):=h.ses.dat.imp fun x hx=>by have:=hx.last;rw[hv,hs]at this;exact this
  have hdi:Ht (fun k=>col k=1) w fun x=>Bi x A m k ks:=by
   rcases Nat.eq_zero_or_pos m with rfl|hm
   ·have hk0:ks=[]:=List.eq_nil_of_length_eq_zero hyo.ints.len
    subst hk0;exact fun _ _ _ _=>⟨rfl,Nat.zero_le _,hyo.ints.nmax,fun hh=>absurd hh (Nat.lt_irrefl 0)⟩
   ·exact(Ht.own hyo (hdc.chg_own hqb hyo hm)).imp fun x hx=>Av.ints hx
  have HDI:=A4 hdi;clear hdc hdi;have H:=A4 h;have HS:=A4 hs;have HWL:=A4 wl;have HL:=A4 hl;have HBB:=A4 hb;have HQ:=A4 hq;have HZ:=A4 hz;have HD:=A4 hD;have HKS:=A4 (hks c ks hs);have HYO:=A4 hyo;clear h wl hl hb hq hz hD hks hd hs hqb hyo;go_enter Tryz.func57,Tryz.ntmps57
  go_upto_region 3 with fail
  generalize w.alloc (.cells #[.int .i64 c.count,.int .i64 c.reg,.int .i64 c.op,.int .i64 c.verb,.int .i64 c.arg,.slice A m k] 112)=W4 at*;clear e0 e1 e2 e3 e4 e5 d46;have e0:W4.cell? ⟨w.heap.size,0,none⟩=some (.int .i64 c.count):=B4.cell 0;have e1:W4.cell? ⟨w.heap.size,1,none⟩=some (.int .i64 c.reg):=B4.cell 1;have e2:W4.cell? ⟨w.heap.size,2,none⟩=some (.int .i64 c.op):=B4.cell 2;have e3:W4.cell? ⟨w.heap.size,3,none⟩=some (.int .i64 c.verb):=B4.cell 3;have e4:W4.cell? ⟨w.heap.size,4,none⟩=some (.int .i64 c.arg):=B4.cell 4;have hz4:=X4.hsize;have B5:=An.new W4 87 (Ma c);have X5:=Al.alloc W4 (.cells (Ma c) 87);unfold Ma at B5 X5;have B4':=B4.ext X5;have X5':=X4.trans X5;clear X4 X5 B4;go_upto_region 4 with fail
  generalize W4.alloc (.cells #[.int .i64 c.count,.int .i64 c.reg,.int .i64 c.op,.int .i64 c.verb,.int .i64 c.arg] 87)=W5 at*;clear e0 e1 e2 e3 e4;have fin:∀W6,Al w W6→An W6 W4.heap.size 87 (Ma (Cf c n))→An W6 w.heap.size 112 #[.int .i64 c.count,.int .i64 c.reg,.int .i64 c.op,.int .i64 c.verb,.int .i64 c.arg,.slice A m k]→True:=fun _ _ _ _=>trivial
  clear fin;by_cases hn0:0<n
  ·have N0:=trivial;exact K4
  ·have N1:=trivial;exact K4
open Classical in
/-- moved, behind what the history answered. -/
theorem Li {w0 w:World}{v:SV}{ok:Prop}{hi':Hi}{line:List Int}{e:Ending}(h:Db w0 col p v s)(he:Al w0 w)(hq:s.told.length≤1000000000000)(hlen:ok→line.length≤4096)
 (hg:(ok∧∃u L m z,e=.returned (.tuple #[u,.slice L m z,.int .i64 0])∧D3 w w0.heap.size u hi'∧Av w w0.heap.size L m z line)∨(¬ok∧∃x:Int,e=.returned (.tuple #[.agg Dj,.slice none 0 0,.int .i64 x])∧x≠0)):
 ∃U L m z x,e=.returned (.tuple #[U,.slice L m z,.int .i64 x])∧
  Calls Tryz.prog 43 #[.pointer (some ⟨p,0,none⟩),U,.slice L m z,.int .i64 x] w fun e' w'=>e'=.returned (.tuple #[])∧Br p w0 col (if ok then Mi s hi' line else Fe s) w':=by
 rcases hg with⟨hok,u,L,m,z,rfl,hO,hI⟩|⟨hno,x,rfl,hx⟩
 ·obtain⟨A,n,c,S,sn,sc,P,pn,pc,rfl⟩:=hO.form
  refine⟨_,L,m,z,0,rfl,?_⟩
  rw[if_pos hok];exact mZ h he hO hI (by rw[←hI.ints.len];exact hlen hok)
 ·refine⟨_,none,0,0,x,rfl,?_⟩
  rw[if_neg hno];refine(nA (h.ext he) hx hq).mono fun e' w' ⟨h1,h2⟩=>⟨h1,?_⟩
  exact Br.trans ⟨he.alt _,fun _ _ h=>h,fun _ _ h=>h⟩ h2
noncomputable def doS (s:PS)(c:Cm):PS:=match Pi s.tx s.rl s.at_ s.fk s.fa c with|none=>Fe s|some d=>Ni s c d
open Classical in
noncomputable def pN (s:PS)(k:Int):PS:=if Ko s.hi s.tx k∧(Gc k:Int)≤s.hi.at_ then Mi s (toH s.hi s.tx (s.hi.at_.toNat-Gc k)) (toL s.hi s.tx (s.hi.at_.toNat-Gc k))else Fe s
open Classical in
noncomputable def Pr (s:PS)(k:Int):PS:=if Ko s.hi s.tx k∧(Gc k:Int)+s.hi.at_≤(s.hi.lines.length:Int)then Mi s (toH s.hi s.tx (s.hi.at_.toNat+Gc k)) (toL s.hi s.tx (s.hi.at_.toNat+Gc k))else Fe s
open Classical in
noncomputable def Po (s:PS)(k:Int):PS:=if Ko s.hi s.tx k∧k≤(s.hi.lines.length:Int)∧0<s.hi.lines.length then Mi s (toH s.hi s.tx (Pp k)) (toL s.hi s.tx (Pp k))else Fe s
open Classical in
noncomputable def Fy (s:PS)(pat:List Int)(older keep:Bool):PS:=
 if h:∃k,Yc s.hi s.tx pat older k∧k<s.hi.lines.length then Mi s (findH s.hi s.tx pat keep h.choose) (toL s.hi s.tx h.choose)else Fe s
def fL (s:PS)(older:Bool):PS:={ s with mode:=3,ask:=[],older:=older }
noncomputable def Gf (s:PS)(c:Cm):PS:=
 if c.op≠0 then doS s c
 else if c.verb=117 then J7 s
 else if c.verb=85 then Kt s
 else if c.verb=46 then Gr s c.count
 else if c.verb=107 then pN s c.count
 else if c.verb=106 then Pr s c.count
 else if c.verb=71 then Po s c.count
 else if c.verb=110∨c.verb=78 then Fy s [] (s.hi.older !=(c.verb==78)) s.hi.older
 else if c.verb=47∨c.verb=63 then fL s (c.verb==47)
 else doS s c
theorem J9 {P:Program}{ops:Array Oper}{o:Oper}{a:Act}{K:Act→World→Prop}{Q:Exit→Act→World→Prop}{E:Prop}{ars:Array Operand}{tys:Array TypeId}(hgd:o.guard=none)
 (f:FuncId) (args:Array Value) (ho:o.op=.call { callee:=.value (.func f),args:=ars,argTypes:=tys }) (hrun:(execOp a.eval o).run P w=.ok (.enter f args) w) (R:Value→World→Prop)
 (hc:Calls P f args w fun e w'=>∃v,e=.returned v∧R v w') (h:∀v w',R v w'→K (a.put o.dst v) w'):if Bm o (yielded ops a.tmps)=true then Oper.wp P o a w K Q else E:=by
 have hw:Bm o (yielded ops a.tmps)=true:=by simp[Bm,hgd]
 rw[if_pos hw];exact I16
theorem wH {v:SV}(h:Db w col p v s)(hl:s.tx.length≤200)(hq:s.told.length≤1000000000000)
 (hlen:(toL s.hi s.tx (s.hi.at_.toNat-Gc k1)).length≤4096):
 Calls Tryz.prog 34 #[.pointer (some ⟨p,0,none⟩),.agg #[.int .i64 k1,.int .i64 k2,.int .i64 0,.int .i64 107,.int .i64 k5]] w fun e w'=>e=.returned (.tuple #[])∧Br p w col (pN s k1) w':=by
 have N0:=trivial;exact wZ
theorem oS {v:SV}(h:Db w col p v s)(hl:s.tx.length≤200)(hq:s.told.length≤1000000000000)
 (hlen:(toL s.hi s.tx (s.hi.at_.toNat+Gc k1)).length≤4096):
 Calls Tryz.prog 34 #[.pointer (some ⟨p,0,none⟩),.agg #[.int .i64 k1,.int .i64 k2,.int .i64 0,.int .i64 106,.int .i64 k5]] w fun e w'=>e=.returned (.tuple #[])∧Br p w col (Pr s k1) w':=by
 have N1:=trivial;exact wZ
theorem oR {v:SV}(h:Db w col p v s)(hl:s.tx.length≤200)(hq:s.told.length≤1000000000000)
 (hlen:(toL s.hi s.tx (Pp k1)).length≤4096):
 Calls Tryz.prog 34 #[.pointer (some ⟨p,0,none⟩),.agg #[.int .i64 k1,.int .i64 k2,.int .i64 0,.int .i64 71,.int .i64 k5]] w fun e w'=>e=.returned (.tuple #[])∧Br p w col (Po s k1) w':=by
 have N2:=trivial;exact wZ
open Classical in
/-- moved, behind what was looked for in the history. -/
theorem Pc {w0 w:World}{v:SV}{pat:List Int}{older keep:Bool}{e:Ending}(h:Db w0 col p v s)(he:Al w0 w)(hq:s.told.length≤1000000000000)(hlen:∀k,k<s.hi.lines.length→(toL s.hi s.tx k).length≤4096)
 (hg:(∃k,Yc s.hi s.tx pat older k∧k<s.hi.lines.length∧∃u L m z,e=.returned (.tuple #[u,.slice L m z,.int .i64 0])∧D3 w w0.heap.size u (findH s.hi s.tx pat keep k)∧Av w w0.heap.size L m z (toL s.hi s.tx k))∨((∀k,¬Yc s.hi s.tx pat older k)∧∃x:Int,e=.returned (.tuple #[.agg Dj,.slice none 0 0,.int .i64 x])∧x≠0)):
 ∃U L m z x,e=.returned (.tuple #[U,.slice L m z,.int .i64 x])∧
  Calls Tryz.prog 43 #[.pointer (some ⟨p,0,none⟩),U,.slice L m z,.int .i64 x] w fun e' w'=>e'=.returned (.tuple #[])∧Br p w0 col (Fy s pat older keep) w':=by
 rcases hg with⟨k,hk,hkl,u,L,m,z,rfl,hO,hI⟩|⟨hno,x,rfl,hx⟩
 ·have hex:∃k,Yc s.hi s.tx pat older k∧k<s.hi.lines.length:=⟨k,hk,hkl⟩
  have hek:hex.choose=k:=by
   have h1:=hex.choose_spec.1.2.2.2;rw[hk.2.2.2]at h1;injection h1 with h1;exact h1.symm
  have hS:Fy s pat older keep=Mi s (findH s.hi s.tx pat keep k) (toL s.hi s.tx k):=by
   unfold Fy;rw[dif_pos hex,hek]
  rw[hS];obtain⟨U,L',m',z',x,e',hc⟩:=Li (ok:=True) (hi':=findH s.hi s.tx pat keep k) (line:=toL s.hi s.tx k) h he hq (fun _=>hlen k hkl) (Or.inl ⟨trivial,u,L,m,z,rfl,hO,hI⟩)
  rw[if_pos trivial]at hc;exact⟨U,L',m',z',x,e',hc⟩
 ·have hS:Fy s pat older keep=Fe s:=by
   unfold Fy;rw[dif_neg fun⟨k,hk,_⟩=>hno k hk]
  rw[hS];obtain⟨U,L',m',z',x',e',hc⟩:=Li (ok:=False) (hi':=s.hi) (line:=[]) h he hq nofun (Or.inr ⟨id,x,rfl,hx⟩);rw[if_neg id]at hc;exact⟨U,L',m',z',x',e',hc⟩
theorem oQ {v:SV}(h:Db w col p v s)(hl:s.tx.length≤200)(hq:s.told.length≤1000000000000)
 (hlen:∀k,k<s.hi.lines.length→(toL s.hi s.tx k).length≤4096):
 Calls Tryz.prog 34 #[.pointer (some ⟨p,0,none⟩),.agg #[.int .i64 k1,.int .i64 k2,.int .i64 0,.int .i64 110,.int .i64 k5]] w fun e w'=>e=.returned (.tuple #[])∧Br p w col (Fy s [] (s.hi.older !=false) s.hi.older) w':=by
 have N3:=trivial;exact wZ
theorem oP {v:SV}(h:Db w col p v s)(hl:s.tx.length≤200)(hq:s.told.length≤1000000000000)
 (hlen:∀k,k<s.hi.lines.length→(toL s.hi s.tx k).length≤4096):
 Calls Tryz.prog 34 #[.pointer (some ⟨p,0,none⟩),.agg #[.int .i64 k1,.int .i64 k2,.int .i64 0,.int .i64 78,.int .i64 k5]] w fun e w'=>e=.returned (.tuple #[])∧Br p w col (Fy s [] (s.hi.older !=true) s.hi.older) w':=by
 have N4:=trivial;exact wZ
section
variable {P:Program} {ops:Array Oper} {Q:Exit→Act→World→Prop} {md:Region.Mode} {S:World→Prop} {f:Nat}
def Fk (P:Program)(md:Region.Mode)(ops:Array Oper)(Q:Exit→Act→World→Prop)(S:World→Prop)(f:Nat):Nat→Array Bool→Act→World→Prop
 |0,listed,a,w=>Hk md ops listed=[]∧Q .normal a w
 |fuel+1,listed,a,w=>(Hk md ops listed=[]→Q .normal a w)∧
  ∀i∈Hk md ops listed,wpOp P ops Q i (fun a' w'=>((listed.setIfInBounds i true).getD f true=false→S w')∧Fk P md ops Q S f fuel (listed.setIfInBounds i true) a' w') a w
theorem Fk.any:∀(fuel:Nat) (listed:Array Bool) (a:Act) (w:World),Fk P md ops Q S f fuel listed a w→wpAny P md ops Q fuel listed a w
 |0,_,_,_,h=>h
 |fuel+1,_,_,_,h=>⟨h.1,fun i hi=>wpOp_mono (fun a' w' h'=>Fk.any fuel _ a' w' h'.2) (h.2 i hi)⟩
def Kx (md:Region.Mode)(ops:Array Oper)(f i:Nat):Bool:=
 match ops[f]? with
 |some o=>o.after.toList.any fun e=>Region.binds md e&&e.on==i
 |none=>false
theorem bA {i:Nat}(h:Kx md ops f i=true):∃o,ops[f]? = some o∧∃e∈o.after,Region.binds md e=true∧e.on=i:=by
 unfold Kx at h;cases ho:ops[f]? with
 |none=>rw[ho]at h;cases h
 |some o=>
  rw[ho]at h;simp only[List.any_eq_true,Bool.and_eq_true,beq_iff_eq]at h;obtain⟨e,he,hb,hi⟩:=h;exact⟨o,rfl,e,by simpa using he,hb,hi⟩
theorem Ql {i:Nat}{oi:Oper}{v:Value}{T:World→Prop}(hi:ops[i]? = some oi)(hsel:∀(j:Nat) (o:Oper) cs b,ops[j]? = some o→o.op≠.select cs b)
 (hQ:∀c a w,Q (.panic c) (a.put oi.dst v) w→Q (.panic c) a w) (hfi:i≠f) (hc:(∀w,T w)∨((∀w,S w→T w)∧Kx md ops f i=true)):
 ∀(fuel:Nat) (listed:Array Bool) (a:Act) (w:World),
  (∀j oj,ops[j]? = some oj→j≠i→listed.getD j true=false→(∀e∈oj.after,Region.binds md e=true→e.on≠i)→oi.apart ops oj=true)→
  i∈Hk md ops listed→YieldsIf P ops T oi v a→T w→((∀w,T w)∨listed.getD f true=false)→(listed.getD f true=false→S w)→
  Fk P md ops Q S f fuel (listed.setIfInBounds i true) (a.put oi.dst v) w→Fk P md ops Q S f (fuel+1) listed a w:=by
 intro fuel
 induction fuel with
 |zero=>
  intro listed a w _ hr hy hT hl hS H;refine⟨fun h=>(by rw[h]at hr;cases hr),fun j hj=>?_⟩
  by_cases hji:j=i
  ·exact I104
  ·have:=ready_mono hj hji
   rw[H.1]at this;cases this
 |succ fuel ih=>
  intro listed a w hfree hr hy hT hl hS H;refine⟨fun h=>(by rw[h]at hr;cases hr),fun j hj=>?_⟩
  by_cases hji:j=i
  ·exact I104
  ·have h1:=H.2 j (ready_mono hj hji)
   obtain⟨hjun,oj,hoj,hall⟩:=mem_ready.1 hj;have hnot:∀e∈oj.after,Region.binds md e=true→e.on≠i:=fun e he hb heq=>by
    have h1:=hall e he hb;have h0:=(mem_ready.1 hr).1;rw[heq]at h1;rcases Nat.lt_or_ge i listed.size with h'|h'
    ·simp[h']at h0 h1;rw[h0]at h1;cases h1
    ·simp[Array.getElem?_eq_none h']at h1
   have h2:=wpOp_putIf hoj (hfree j oj hoj hji hjun hnot) (fun cs b=>hsel i oi cs b hi) (fun cs b=>hsel j oj cs b hoj) hQ hy h1
   have hfree':∀k ok,ops[k]? = some ok→k≠i→(listed.setIfInBounds j true).getD k true=false→
    (∀e∈ok.after,Region.binds md e=true→e.on≠i)→oi.apart ops ok=true:=fun k ok hk hki hun hno=>by
    refine hfree k ok hk hki ?_ hno
    by_cases hjk:j=k
    ·subst hjk;exact hjun
    ·rw[getD_set_ne true hjk]at hun;exact hun
   have hl':(∀w,T w)∨(listed.setIfInBounds j true).getD f true=false:=by
    rcases hc with h|⟨_,hw⟩
    ·exact .inl h
    ·rcases hl with h|h
     ·exact .inl h
     ·refine .inr ?_
      have hjf:j≠f:=fun e=>by
       obtain⟨o,ho,e',he,hb,hi'⟩:=bA hw;rw[←e,hoj]at ho;injection ho with ho;subst ho;exact hnot e' he hb hi'
      rw[getD_set_ne true hjf];exact h
   refine wpOp_mono (fun a' w' h3=>?_) h2
   obtain⟨hy',hS',hW'⟩:=h3;have hSj:(listed.setIfInBounds j true).getD f true=false→S w':=fun h=>hS' (by rw[Array.setIfInBounds_comm _ _ (Ne.symm hji),getD_set_ne true hfi];exact h)
   have hT':T w':=by
    rcases hc with h|⟨h,_⟩
    ·exact h w'
    ·rcases hl' with h'|h'
     ·exact h' w'
     ·exact h w' (hSj h')
   refine⟨hSj,ih (listed.setIfInBounds j true) a' w' hfree' (ready_mono hr (Ne.symm hji)) hy' hT' hl' hSj ?_⟩
   rw[Array.setIfInBounds_comm _ _ hji];exact hW'
theorem Ew {i:Nat}{oi:Oper}{v:Value}{fuel:Nat}{listed:Array Bool}{a:Act}{w:World}(hi:ops[i]? = some oi)
 (hs:Region.noSelect ops=true) (hf:Region.free md ops listed i=true) (hr:(Hk md ops listed).contains i=true) (hw:Kx md ops f i=true) (hfi:i≠f) (hl:listed.getD f true=false)
 (hQ:∀c a w,Q (.panic c) (a.put oi.dst v) w→Q (.panic c) a w) (hy:YieldsIf P ops S oi v a) (hS:S w)
 (h:Fk P md ops Q S f fuel (listed.setIfInBounds i true) (a.put oi.dst v) w):Fk P md ops Q S f (fuel+1) listed a w:=
 Ql hi (Region.noSelect_spec hs) hQ hfi (.inr ⟨fun _ h=>h,hw⟩) fuel listed a w (Region.free_spec hi hf) (by simpa using hr) hy hS (.inr hl) (fun _=>hS) h
theorem Ba {i:Nat}{oi:Oper}{v:Value}{fuel:Nat}{listed:Array Bool}{a:Act}{w:World}(hi:ops[i]? = some oi)
 (hs:Region.noSelect ops=true) (hf:Region.free md ops listed i=true) (hr:(Hk md ops listed).contains i=true) (hfi:i≠f)
 (hQ:∀c a w,Q (.panic c) (a.put oi.dst v) w→Q (.panic c) a w) (hy:YieldsIf P ops (fun _=>True) oi v a) (hS:listed.getD f true=false→S w)
 (h:Fk P md ops Q S f fuel (listed.setIfInBounds i true) (a.put oi.dst v) w):Fk P md ops Q S f (fuel+1) listed a w:=
 Ql (T:=fun _=>True) hi (Region.noSelect_spec hs) hQ hfi (.inl fun _=>trivial) fuel listed a w (Region.free_spec hi hf) (by simpa using hr) hy trivial (.inl fun _=>trivial) hS h
theorem Gt {i:Nat}{o:Oper}{fuel:Nat}{listed:Array Bool}{a:Act}{w:World}(hr:Hk md ops listed=[i])(ho:ops[i]? = some o)
 (h:∀K':Act→World→Prop,Shut (∀a w,S w→(S w→Fk P md ops Q S f fuel (listed.setIfInBounds i true) a w)→K' a w)→if Bm o (yielded ops a.tmps)=true then Oper.wp P o a w K' Q else K' (a.put o.dst undef) w):
 Fk P md ops Q S f (fuel+1) listed a w:=by
 refine⟨fun h0=>absurd (hr.symm.trans h0) (by simp),fun j hj=>?_⟩
 rw[hr,Et]at hj;subst hj;exact wpOp_step ho fun K' hK=>h K' fun a w hS hW=>hK a w ⟨fun _=>hS,hW hS⟩
theorem Ex {i:Nat}{o:Oper}{fuel:Nat}{listed:Array Bool}{a:Act}{w:World}(hr:Hk md ops listed=[i])(ho:ops[i]? = some o)(hl:(listed.setIfInBounds i true).getD f true=true)
 (h:∀K':Act→World→Prop,Shut (∀a w,Fk P md ops Q S f fuel (listed.setIfInBounds i true) a w→K' a w)→if Bm o (yielded ops a.tmps)=true then Oper.wp P o a w K' Q else K' (a.put o.dst undef) w):
 Fk P md ops Q S f (fuel+1) listed a w:=by
 refine⟨fun h0=>absurd (hr.symm.trans h0) (by simp),fun j hj=>?_⟩
 rw[hr,Et]at hj;subst hj;exact wpOp_step ho fun K' hK=>h K' fun a w hW=>hK a w ⟨fun e=>(by rw[hl]at e;cases e),hW⟩
theorem Kw {listed:Array Bool}{a:Act}{w:World}(hr:Hk md ops listed=[])(h:Q .normal a w):∀fuel,Fk P md ops Q S f fuel listed a w
 |0=>⟨hr,h⟩
 |_+1=>⟨fun _=>h,by rw[hr];simp⟩
theorem Gm {id:Nat}{a:Act}{w:World}(f:Nat)(hm:P.follows .mixedOrders=true)(hS:S w.drew)
 (h:S w.drew→Fk P .any ops Q S f ops.size (Array.replicate ops.size false) a w.drew):(Code.region id ops true).wp P Q a w:=
 wp_region_any hm (Fk.any _ _ _ _ (h hS))
end
theorem oO {v:SV}(h:Db w col p v s)(hl:s.tx.length≤200)(hq:s.told.length≤500000000000)(hb:s.past.length≤30):
 Calls Tryz.prog 34 #[.pointer (some ⟨p,0,none⟩),.agg #[.int .i64 k1,.int .i64 k2,.int .i64 0,.int .i64 117,.int .i64 k5]] w fun e w'=>e=.returned (.tuple #[])∧Br p w col (J7 s) w':=by
 have N0:=trivial;exact wY
theorem jI {v:SV}(h:Db w col p v s)(hl:s.tx.length≤200)(hq:s.told.length≤500000000000)(hf:s.first.length≤200)(hb:s.past.length≤30):
 Calls Tryz.prog 34 #[.pointer (some ⟨p,0,none⟩),.agg #[.int .i64 k1,.int .i64 k2,.int .i64 0,.int .i64 85,.int .i64 k5]] w fun e w'=>e=.returned (.tuple #[])∧Br p w col (Kt s) w':=by
 have N1:=trivial;exact wY
theorem sQ {v:SV}(h:Db w col p v s)(hl:s.tx.length≤200)(hq:s.told.length≤500000000000){K:Nat}(wl:∀x∈s.tx,(Lit.int .i64 x).wf=true)(hb:s.past.length≤30)(hz:∀c d,Pi s.tx s.rl s.at_ s.fk s.fa c=some d→d.tx.length≤4096)
 (hD:∀c ks d,s.last=some (c,ks)→Pi s.tx s.rl s.at_ s.fk s.fa (Cf c k1)=some d→(Ni s (Cf c k1) d).mode≠0→pK K 500000000000 (Ni s (Cf c k1) d)) (hks:∀c ks,s.last=some (c,ks)→(∀k∈ks,k≠27)∧ks.length≤2000000) (hK:K≤2000000):
 Calls Tryz.prog 34 #[.pointer (some ⟨p,0,none⟩),.agg #[.int .i64 k1,.int .i64 k2,.int .i64 0,.int .i64 46,.int .i64 k5]] w fun e w'=>e=.returned (.tuple #[])∧Br p w col (Gr s k1) w':=by
 have N2:=trivial;exact wY
theorem wI {v:SV}{k1 k2 k3 k4 k5:Int}(h:Db w col p v s)(hl:s.tx.length≤200)(hq:s.told.length≤500000000000)(wl:∀x∈s.tx,(Lit.int .i64 x).wf=true)(hb:s.past.length≤30)(hz:∀c d,Pi s.tx s.rl s.at_ s.fk s.fa c=some d→d.tx.length≤4096)(h3:(k3 !=0)=true):
 Calls Tryz.prog 34 #[.pointer (some ⟨p,0,none⟩),.agg #[.int .i64 k1,.int .i64 k2,.int .i64 k3,.int .i64 k4,.int .i64 k5]] w fun e w'=>e=.returned (.tuple #[])∧Br p w col (doS s ⟨k1,k2,k3,k4,k5⟩) w':=by
 have N3:=trivial;exact wY
theorem oN {v:SV}{k1 k2 k4 k5:Int}(h:Db w col p v s)(hl:s.tx.length≤200)(hq:s.told.length≤500000000000)(wl:∀x∈s.tx,(Lit.int .i64 x).wf=true)(hb:s.past.length≤30)(hz:∀c d,Pi s.tx s.rl s.at_ s.fk s.fa c=some d→d.tx.length≤4096)(v117:(k4==117)=false)(v85:(k4==85)=false)(v46:(k4==46)=false)(v107:(k4==107)=false)(v106:(k4==106)=false)(v71:(k4==71)=false)(v110:(k4==110)=false)(v78:(k4==78)=false)(v47:(k4==47)=false)(v63:(k4==63)=false):
 Calls Tryz.prog 34 #[.pointer (some ⟨p,0,none⟩),.agg #[.int .i64 k1,.int .i64 k2,.int .i64 0,.int .i64 k4,.int .i64 k5]] w fun e w'=>e=.returned (.tuple #[])∧Br p w col (doS s ⟨k1,k2,0,k4,k5⟩) w':=by
 have N4:=trivial;exact wY
theorem jG {v:SV}(h:Db w col p v s)(hl:s.tx.length≤200)(hq:s.told.length≤500000000000):
 Calls Tryz.prog 34 #[.pointer (some ⟨p,0,none⟩),.agg #[.int .i64 k1,.int .i64 k2,.int .i64 0,.int .i64 47,.int .i64 k5]] w fun e w'=>e=.returned (.tuple #[])∧Br p w col (fL s true) w':=by
 have N0:=trivial;exact zX
theorem jH {v:SV}(h:Db w col p v s)(hl:s.tx.length≤200)(hq:s.told.length≤500000000000):
 Calls Tryz.prog 34 #[.pointer (some ⟨p,0,none⟩),.agg #[.int .i64 k1,.int .i64 k2,.int .i64 0,.int .i64 63,.int .i64 k5]] w fun e w'=>e=.returned (.tuple #[])∧Br p w col (fL s false) w':=by
 have N1:=trivial;exact zX
theorem Bg.pop {b m c:Nat}(h:Bg w b (.slice A (m+1) c) l):Bg w b (.slice A m c) l.dropLast:=by
 obtain⟨A',n',c',e,h1,h2,h3⟩:=h;injection e with e1 e2 e3;subst e1 e2 e3;have hl:=h1.ints.len;have h4:=Ay.pop (k:=m) h1 (by omega) (by omega)
 rw[←List.map_take]at h4;refine⟨A,m,c,rfl,?_,h2,by omega⟩
 rw[List.dropLast_eq_take,hl];exact h4
noncomputable def P5 (s:PS)(key:Int):PS:=
 if key=13∨key=10 then Fy { s with mode:=0 } s.ask s.older s.older
 else if key=27 then { s with mode:=0 }
 else if key=8∨key=127 then(if s.ask=[]then { s with mode:=0 }else { s with ask:=s.ask.dropLast })
 else if key<32∨s.ask.length=200 then Fe s
 else { s with ask:=s.ask++[key] }
theorem kD {v:SV}(h:Db w col p v s)(hk:key=13∨key=10)(hl:s.tx.length≤200)(hq:s.told.length≤500000000000)(hlen:∀k,k<s.hi.lines.length→(toL s.hi s.tx k).length≤4096):
 Calls Tryz.prog 28 #[.pointer (some ⟨p,0,none⟩),.int .i64 key] w fun e w'=>e=.returned (.tuple #[])∧Br p w col (Fy { s with mode:=0 } s.ask s.older s.older) w':=by
 have hb:=h.ses.blk;have d2:w.cell? ⟨p,2,none⟩=some (.int .i64 s.mode):=hb.cell 2;have f2:=hb.frozen 2;have HM:=A4 (h.chain ((Dh.start (Al.refl w) h.ses.blk).set 2 (.int .i64 0)) v { s with mode:=0 } (by kernel_rfl) (fun w'' _ ht hd=>⟨hd.1,hd.2,hd.3,hd.4,hd.5,hd.6,hd.7,hd.8⟩))
 clear h hb;rcases hk with rfl|rfl
 all_goals
  go_enter Tryz.func28,Tryz.ntmps28
  go_upto_region 3 with fail
  clear d2 f2;generalize w.setCell ⟨p,2,none⟩ (.int .i64 0)=wa at*;have HT:=A4 HM.out.2;have hm0:=HM.out.1.ext (Al.drew wa);clear HM;have hE0:=Al.drew wa;have HE0:=A4 ((⟨hE0.alt _,fun _ _ h=>h,fun _ _ h=>h⟩:Kp wa col wa.drew col))
  clear hE0;obtain⟨A9,n9,k9,hv9,ho9,hc9,_⟩:=hm0.ses.dat.here.ask;have HA9:=A4 (And.intro ho9.ints hc9);have hbl:=hm0.ses.blk;have HC:Hid (∀wq,Al wa.drew wq→Calls Tryz.prog 37 #[.agg #[.pointer v.tr]] wq fun e w'=>∃u,e=.returned u∧(∃A k,u=.slice A s.tx.length k∧Av w' wq.heap.size A s.tx.length k s.tx)∧Al wq w'):=
   A4 fun wq he=>Fs (hm0.ext he).ses.dat.here.tr (by show s.tx.length≤4096;omega)
  have HF:Hid (∀wq A k,Al wa.drew wq→Av wq 0 A s.tx.length k s.tx→Calls Tryz.prog 44 #[.agg (Jz v s.hi),.slice A s.tx.length k,.slice A9 n9 k9,.bool s.older] wq fun e w'=>∃u,e=.returned u∧(∃U L m z x,u=.tuple #[U,.slice L m z,.int .i64 x]∧
   Calls Tryz.prog 43 #[.pointer (some ⟨p,0,none⟩),U,.slice L m z,.int .i64 x] w' fun e' w''=>e'=.returned (.tuple #[])∧Br p w col (Fy { s with mode:=0 } s.ask s.older s.older) w'')):=A4 fun wq A k he hA=>by
   have hm:=hm0.ext he;refine(eW hm.ses.dat.here.his.v hA.ints (Ay.nocap' hA) (HA9.out.1.ext he) HA9.out.2).mono ?_
   rintro e w' ⟨he',hg⟩;obtain⟨U,L,m,z,x,rfl,hc⟩:=Pc (keep:=s.older) hm he' (show s.told.length≤1000000000000 by omega) hlen (hg.imp (fun⟨k,h1,h2,u,L,m,z,h3,h4,h5,_⟩=>⟨k,h1,h2,u,L,m,z,h3,h4,h5⟩) id)
   exact⟨_,rfl,U,L,m,z,x,rfl,hc.mono fun e w'' ⟨h1,h2⟩=>⟨h1,Br.trans HT.out (Br.trans HE0.out (Br.trans ⟨he.alt _,fun _ _ h=>h,fun _ _ h=>h⟩ h2))⟩⟩
  clear hm0 ho9 hc9;refine Gm (S:=fun w'=>Al wa.drew w') 19 (by kernel_rfl) (Al.refl _) (fun hS=>?_)
  generalize wa.drew=cur at*;refine Ba (i:=0) (v:=(.pointer (some ⟨p,0,none⟩))) rfl (by kernel_rfl) (by kernel_rfl) (by kernel_rfl) (by decide) (fun _ _ _ h=>h) (Or.inl ⟨by rfl,by(intro w' hSw;go_simp)⟩) (fun hl=>by first|exact hS|exact absurd hl (by decide)) ?_
  try simp only[Ab,A7,Aa,Am,A6,Ac,Ad]
  refine Ba (i:=1) (v:=(.pointer (some ⟨p,0,none⟩))) rfl (by kernel_rfl) (by kernel_rfl) (by kernel_rfl) (by decide) (fun _ _ _ h=>h) (Or.inl ⟨by rfl,by(intro w' hSw;go_simp)⟩) (fun hl=>by first|exact hS|exact absurd hl (by decide)) ?_
  try simp only[Ab,A7,Aa,Am,A6,Ac,Ad]
  refine Ba (i:=2) (v:=(.pointer (some ⟨p,0,none⟩))) rfl (by kernel_rfl) (by kernel_rfl) (by kernel_rfl) (by decide) (fun _ _ _ h=>h) (Or.inl ⟨by rfl,by(intro w' hSw;go_simp)⟩) (fun hl=>by first|exact hS|exact absurd hl (by decide)) ?_
  try simp only[Ab,A7,Aa,Am,A6,Ac,Ad]
  refine Ba (i:=3) (v:=(.pointer (some ⟨p,37,none⟩))) rfl (by kernel_rfl) (by kernel_rfl) (by kernel_rfl) (by decide) (fun _ _ _ h=>h) (Or.inl ⟨by rfl,by(intro w' hSw;go_simp)⟩) (fun hl=>by first|exact hS|exact absurd hl (by decide)) ?_
  try simp only[Ab,A7,Aa,Am,A6,Ac,Ad]
  refine Ew (i:=4) (v:=(.agg (Jz v s.hi))) rfl (by kernel_rfl) (by kernel_rfl) (by kernel_rfl) (by kernel_rfl) (by decide) (by kernel_rfl) (fun _ _ _ h=>h) (Or.inl ⟨by rfl,by(intro w' hSw;exact De 54 (.tmp 28) rfl p 37 6 rfl (hbl.ext hSw) (by kernel_rfl) Tryz.underlying54 rfl (by kernel_rfl))⟩) hS ?_
  try simp only[Ab,A7,Aa,Am,A6,Ac,Ad]
  refine Ba (i:=5) (v:=(.pointer (some ⟨p,0,none⟩))) rfl (by kernel_rfl) (by kernel_rfl) (by kernel_rfl) (by decide) (fun _ _ _ h=>h) (Or.inl ⟨by rfl,by(intro w' hSw;go_simp)⟩) (fun hl=>by first|exact hS|exact absurd hl (by decide)) ?_
  try simp only[Ab,A7,Aa,Am,A6,Ac,Ad]
  refine Ba (i:=6) (v:=(.pointer (some ⟨p,0,none⟩))) rfl (by kernel_rfl) (by kernel_rfl) (by kernel_rfl) (by decide) (fun _ _ _ h=>h) (Or.inl ⟨by rfl,by(intro w' hSw;go_simp)⟩) (fun hl=>by first|exact hS|exact absurd hl (by decide)) ?_
  try simp only[Ab,A7,Aa,Am,A6,Ac,Ad]
  refine Ba (i:=7) (v:=(.pointer (some ⟨p,0,none⟩))) rfl (by kernel_rfl) (by kernel_rfl) (by kernel_rfl) (by decide) (fun _ _ _ h=>h) (Or.inl ⟨by rfl,by(intro w' hSw;go_simp)⟩) (fun hl=>by first|exact hS|exact absurd hl (by decide)) ?_
  try simp only[Ab,A7,Aa,Am,A6,Ac,Ad]
  refine Ba (i:=8) (v:=(.pointer (some ⟨p,0,none⟩))) rfl (by kernel_rfl) (by kernel_rfl) (by kernel_rfl) (by decide) (fun _ _ _ h=>h) (Or.inl ⟨by rfl,by(intro w' hSw;go_simp)⟩) (fun hl=>by first|exact hS|exact absurd hl (by decide)) ?_
  try simp only[Ab,A7,Aa,Am,A6,Ac,Ad]
  refine Ba (i:=11) (v:=(.pointer (some ⟨p,0,none⟩))) rfl (by kernel_rfl) (by kernel_rfl) (by kernel_rfl) (by decide) (fun _ _ _ h=>h) (Or.inl ⟨by rfl,by(intro w' hSw;go_simp)⟩) (fun hl=>by first|exact hS|exact absurd hl (by decide)) ?_
  try simp only[Ab,A7,Aa,Am,A6,Ac,Ad]
  refine Ba (i:=12) (v:=(.pointer (some ⟨p,0,none⟩))) rfl (by kernel_rfl) (by kernel_rfl) (by kernel_rfl) (by decide) (fun _ _ _ h=>h) (Or.inl ⟨by rfl,by(intro w' hSw;go_simp)⟩) (fun hl=>by first|exact hS|exact absurd hl (by decide)) ?_
  try simp only[Ab,A7,Aa,Am,A6,Ac,Ad]
  refine Ba (i:=13) (v:=(.pointer (some ⟨p,48,none⟩))) rfl (by kernel_rfl) (by kernel_rfl) (by kernel_rfl) (by decide) (fun _ _ _ h=>h) (Or.inl ⟨by rfl,by(intro w' hSw;go_simp)⟩) (fun hl=>by first|exact hS|exact absurd hl (by decide)) ?_
  try simp only[Ab,A7,Aa,Am,A6,Ac,Ad]
  refine Ew (i:=14) (v:=(.slice A9 n9 k9)) rfl (by kernel_rfl) (by kernel_rfl) (by kernel_rfl) (by kernel_rfl) (by decide) (by kernel_rfl) (fun _ _ _ h=>h) (Or.inl ⟨by rfl,by(intro w' hSw;have e0:w'.cell? ⟨p,48,none⟩=some (.slice A9 n9 k9):=((hbl.ext hSw).cell 48).trans (congrArg some hv9);go_simp)⟩) hS ?_
  try simp only[Ab,A7,Aa,Am,A6,Ac,Ad]
  refine Ba (i:=15) (v:=(.pointer (some ⟨p,0,none⟩))) rfl (by kernel_rfl) (by kernel_rfl) (by kernel_rfl) (by decide) (fun _ _ _ h=>h) (Or.inl ⟨by rfl,by(intro w' hSw;go_simp)⟩) (fun hl=>by first|exact hS|exact absurd hl (by decide)) ?_
  try simp only[Ab,A7,Aa,Am,A6,Ac,Ad]
  refine Ba (i:=16) (v:=(.pointer (some ⟨p,0,none⟩))) rfl (by kernel_rfl) (by kernel_rfl) (by kernel_rfl) (by decide) (fun _ _ _ h=>h) (Or.inl ⟨by rfl,by(intro w' hSw;go_simp)⟩) (fun hl=>by first|exact hS|exact absurd hl (by decide)) ?_
  try simp only[Ab,A7,Aa,Am,A6,Ac,Ad]
  refine Ba (i:=17) (v:=(.pointer (some ⟨p,49,none⟩))) rfl (by kernel_rfl) (by kernel_rfl) (by kernel_rfl) (by decide) (fun _ _ _ h=>h) (Or.inl ⟨by rfl,by(intro w' hSw;go_simp)⟩) (fun hl=>by first|exact hS|exact absurd hl (by decide)) ?_
  try simp only[Ab,A7,Aa,Am,A6,Ac,Ad]
  refine Ew (i:=18) (v:=(.bool s.older)) rfl (by kernel_rfl) (by kernel_rfl) (by kernel_rfl) (by kernel_rfl) (by decide) (by kernel_rfl) (fun _ _ _ h=>h) (Or.inl ⟨by rfl,by(intro w' hSw;have e0:w'.cell? ⟨p,49,none⟩=some (.bool s.older):=(hbl.ext hSw).cell 49;go_simp)⟩) hS ?_
  try simp only[Ab,A7,Aa,Am,A6,Ac,Ad]
  have d0:cur.cell? ⟨p,0,none⟩=some (.pointer v.tr):=hbl.cell 0;refine Gt (i:=9) (by decide +kernel) rfl (fun K hK=>?_)
  go_simp
  refine hK.out _ _ hS (fun hS=>?_)
  clear hK K d0
  try simp only[Ab,A7,Aa,Am,A6,Ac,Ad]
  refine Gt (i:=10) (by decide +kernel) rfl (fun K hK=>?_)
  refine C9 rfl 37 #[.agg #[.pointer v.tr]] rfl (by kernel_rfl) (fun u w'=>∃A k,u=.slice A s.tx.length k∧Av w' cur.heap.size A s.tx.length k s.tx) (HC.out _ hS) ?_
  rintro u w2 ⟨A,k,rfl,hA⟩ hE;replace hA:=hA.lower (Nat.zero_le _);refine hK.out _ _ hE (fun hS=>?_)
  clear hK K hE
  try simp only[Ab,A7,Aa,Am,A6,Ac,Ad]
  refine Ex (i:=19) (by decide +kernel) rfl (by decide +kernel) (fun K hK=>?_)
  refine C6 rfl 44 #[.agg (Jz v s.hi),.slice A s.tx.length k,.slice A9 n9 k9,.bool s.older] rfl (by kernel_rfl) _ (HF.out _ A k hS hA) ?_
  rintro u w3 ⟨U,L,m,z,x,rfl,hmv⟩;refine hK.out _ _ ?_
  clear hK K hS hA
  try simp only[Ab,A7,Aa,Am,A6,Ac,Ad]
  refine Ba (i:=20) (v:=U) rfl (by kernel_rfl) (by kernel_rfl) (by kernel_rfl) (by decide) (fun _ _ _ h=>h) (Or.inl ⟨by rfl,by(intro w' hSw;go_simp)⟩) (fun hl=>by first|exact hS|exact absurd hl (by decide)) ?_
  try simp only[Ab,A7,Aa,Am,A6,Ac,Ad]
  refine Ba (i:=21) (v:=(.slice L m z)) rfl (by kernel_rfl) (by kernel_rfl) (by kernel_rfl) (by decide) (fun _ _ _ h=>h) (Or.inl ⟨by rfl,by(intro w' hSw;go_simp)⟩) (fun hl=>by first|exact hS|exact absurd hl (by decide)) ?_
  try simp only[Ab,A7,Aa,Am,A6,Ac,Ad]
  refine Ba (i:=22) (v:=(.int .i64 x)) rfl (by kernel_rfl) (by kernel_rfl) (by kernel_rfl) (by decide) (fun _ _ _ h=>h) (Or.inl ⟨by rfl,by(intro w' hSw;go_simp)⟩) (fun hl=>by first|exact hS|exact absurd hl (by decide)) ?_
  try simp only[Ab,A7,Aa,Am,A6,Ac,Ad]
  refine Ex (i:=23) (by decide +kernel) rfl (by decide +kernel) (fun K hK=>?_)
  refine C6 rfl 43 #[.pointer (some ⟨p,0,none⟩),U,.slice L m z,.int .i64 x] rfl (by kernel_rfl) (fun u w'=>u=.tuple #[]∧Br p w col (Fy { s with mode:=0 } s.ask s.older s.older) w') (hmv.mono fun e w' ⟨h1,h2⟩=>⟨_,h1,rfl,h2⟩) ?_
  rintro u w4 ⟨rfl,hfin⟩;have HFin:=A4 hfin;clear hfin hmv;refine hK.out _ _ ?_
  clear hK K;refine Kw (by kernel_rfl) ?_ _
  go_wp2_with fail
  go_end0
  exact⟨rfl,HFin.out⟩
theorem tA {v:SV}(h:Db w col p v s)(hk:key=27):
 Calls Tryz.prog 28 #[.pointer (some ⟨p,0,none⟩),.int .i64 key] w fun e w'=>e=.returned (.tuple #[])∧Br p w col ({ s with mode:=0 }) w':=by
 have hb:=h.ses.blk;have d2:w.cell? ⟨p,2,none⟩=some (.int .i64 s.mode):=hb.cell 2;have f2:=hb.frozen 2;have HM:=A4 (h.chain ((Dh.start (Al.refl w) h.ses.blk).set 2 (.int .i64 0)) v { s with mode:=0 } (by kernel_rfl) (fun w'' _ ht hd=>⟨hd.1,hd.2,hd.3,hd.4,hd.5,hd.6,hd.7,hd.8⟩))
 clear h hb;subst hk;go_enter Tryz.func28,Tryz.ntmps28
 go_wp2_with fail
 go_end0
 exact⟨rfl,_,_,HM.out⟩
theorem pF {v:SV}(h:Db w col p v s)(hk:key=8∨key=127)(ha:s.ask=[]):
 Calls Tryz.prog 28 #[.pointer (some ⟨p,0,none⟩),.int .i64 key] w fun e w'=>e=.returned (.tuple #[])∧Br p w col ({ s with mode:=0 }) w':=by
 have hb:=h.ses.blk;have d2:w.cell? ⟨p,2,none⟩=some (.int .i64 s.mode):=hb.cell 2;have f2:=hb.frozen 2;have HM:=A4 (h.chain ((Dh.start (Al.refl w) h.ses.blk).set 2 (.int .i64 0)) v { s with mode:=0 } (by kernel_rfl) (fun w'' _ ht hd=>⟨hd.1,hd.2,hd.3,hd.4,hd.5,hd.6,hd.7,hd.8⟩))
 obtain⟨A9,n9,k9,hv9,ho9,hc9,_⟩:=h.ses.dat.here.ask;have hn:=ho9.ints.len;rw[ha]at hn;have hn:n9=0:=by simpa using hn.symm
 subst hn;have d48:w.cell? ⟨p,48,none⟩=some (.slice A9 0 k9):=(hb.cell 48).trans (congrArg some hv9);clear h hb ho9 hc9 hv9;rcases hk with rfl|rfl
 all_goals
  go_enter Tryz.func28,Tryz.ntmps28
  go_wp2_with fail
  refine bodyPost_ret (results_none rfl _ _ _) rfl ⟨rfl,_,_,HM.out⟩
theorem pH {v:SV}(h:Db w col p v s)(hk:key=8∨key=127)(ha:s.ask≠[]):
 Calls Tryz.prog 28 #[.pointer (some ⟨p,0,none⟩),.int .i64 key] w fun e w'=>e=.returned (.tuple #[])∧Br p w col ({ s with ask:=s.ask.dropLast }) w':=by
 have hb:=h.ses.blk;obtain⟨A9,n9,k9,hv9,ho9,hc9,hz9⟩:=h.ses.dat.here.ask;have hn:=ho9.ints.len;obtain⟨m,rfl⟩:∃m,n9=m+1:=⟨n9-1,by have:=List.length_pos_iff.2 ha;omega⟩
 have hnc:=ho9.ints.ncap;have d48:w.cell? ⟨p,48,none⟩=some (.slice A9 (m+1) k9):=(hb.cell 48).trans (congrArg some hv9);have cc:=Dh.start (Al.drew w) (hb.ext (Al.drew w));have hnz:((((m+1:Nat):Int))==0)=false:=by simp;omega
 have H:=A4 h;have HV:=A4 hv9;clear h hb ho9 hc9 hv9;rcases hk with rfl|rfl
 all_goals
  go_enter Tryz.func28,Tryz.ntmps28
  go_upto_region 9 with fail
  have d48':w.drew.cell? ⟨p,48,none⟩=some (.slice A9 (m+1) k9):=Al.cell (Al.drew w) d48;have f48:=cc.blk.frozen 48;have hm1:((((m+1:Nat):Int))-1)=(m:Int):=by omega
  refine Gm (S:=fun w'=>w'=w.drew) 11 (by kernel_rfl) rfl (fun hS=>?_)
  generalize w.drew=cur at*;refine Ba (i:=0) (v:=(.pointer (some ⟨p,0,none⟩))) rfl (by kernel_rfl) (by kernel_rfl) (by kernel_rfl) (by decide) (fun _ _ _ h=>h) (Or.inl ⟨by rfl,by(intro w' hSw;go_simp)⟩) (fun hl=>by first|exact hS|exact absurd hl (by decide)) ?_
  try simp only[Ab,A7,Aa,Am,A6,Ac,Ad]
  refine Ba (i:=1) (v:=(.pointer (some ⟨p,0,none⟩))) rfl (by kernel_rfl) (by kernel_rfl) (by kernel_rfl) (by decide) (fun _ _ _ h=>h) (Or.inl ⟨by rfl,by(intro w' hSw;go_simp)⟩) (fun hl=>by first|exact hS|exact absurd hl (by decide)) ?_
  try simp only[Ab,A7,Aa,Am,A6,Ac,Ad]
  refine Ba (i:=2) (v:=(.pointer (some ⟨p,0,none⟩))) rfl (by kernel_rfl) (by kernel_rfl) (by kernel_rfl) (by decide) (fun _ _ _ h=>h) (Or.inl ⟨by rfl,by(intro w' hSw;go_simp)⟩) (fun hl=>by first|exact hS|exact absurd hl (by decide)) ?_
  try simp only[Ab,A7,Aa,Am,A6,Ac,Ad]
  refine Ba (i:=3) (v:=(.pointer (some ⟨p,48,none⟩))) rfl (by kernel_rfl) (by kernel_rfl) (by kernel_rfl) (by decide) (fun _ _ _ h=>h) (Or.inl ⟨by rfl,by(intro w' hSw;go_simp)⟩) (fun hl=>by first|exact hS|exact absurd hl (by decide)) ?_
  try simp only[Ab,A7,Aa,Am,A6,Ac,Ad]
  refine Ew (i:=4) (v:=(.slice A9 (m+1) k9)) rfl (by kernel_rfl) (by kernel_rfl) (by kernel_rfl) (by kernel_rfl) (by decide) (by kernel_rfl) (fun _ _ _ h=>h) (Or.inl ⟨by rfl,by(intro w' hSw;subst hSw;go_simp)⟩) hS ?_
  try simp only[Ab,A7,Aa,Am,A6,Ac,Ad]
  refine Ba (i:=5) (v:=(.pointer (some ⟨p,0,none⟩))) rfl (by kernel_rfl) (by kernel_rfl) (by kernel_rfl) (by decide) (fun _ _ _ h=>h) (Or.inl ⟨by rfl,by(intro w' hSw;go_simp)⟩) (fun hl=>by first|exact hS|exact absurd hl (by decide)) ?_
  try simp only[Ab,A7,Aa,Am,A6,Ac,Ad]
  refine Ba (i:=6) (v:=(.pointer (some ⟨p,0,none⟩))) rfl (by kernel_rfl) (by kernel_rfl) (by kernel_rfl) (by decide) (fun _ _ _ h=>h) (Or.inl ⟨by rfl,by(intro w' hSw;go_simp)⟩) (fun hl=>by first|exact hS|exact absurd hl (by decide)) ?_
  try simp only[Ab,A7,Aa,Am,A6,Ac,Ad]
  refine Ba (i:=7) (v:=(.pointer (some ⟨p,48,none⟩))) rfl (by kernel_rfl) (by kernel_rfl) (by kernel_rfl) (by decide) (fun _ _ _ h=>h) (Or.inl ⟨by rfl,by(intro w' hSw;go_simp)⟩) (fun hl=>by first|exact hS|exact absurd hl (by decide)) ?_
  try simp only[Ab,A7,Aa,Am,A6,Ac,Ad]
  refine Gt (i:=8) (by decide +kernel) rfl (fun K hK=>?_)
  go_simp
  refine hK.out _ _ rfl (fun hS=>?_)
  clear hK K
  try simp only[Ab,A7,Aa,Am,A6,Ac,Ad]
  refine Ba (i:=9) (v:=(.int .i64 ((m+1:Nat):Int))) rfl (by kernel_rfl) (by kernel_rfl) (by kernel_rfl) (by decide) (fun _ _ _ h=>h) (Or.inl ⟨by rfl,by(intro w' hSw;go_simp)⟩) (fun hl=>by first|exact hS|exact absurd hl (by decide)) ?_
  try simp only[Ab,A7,Aa,Am,A6,Ac,Ad]
  refine Ba (i:=10) (v:=(.int .i64 (m:Int))) rfl (by kernel_rfl) (by kernel_rfl) (by kernel_rfl) (by decide) (fun _ _ _ h=>h) (Or.inl ⟨by rfl,by(intro w' hSw;have hwr:IntKind.i64.wrap (m:Int)=(m:Int):=IntWalk.i64_in _ (by omega);go_simp)⟩) (fun hl=>by first|exact hS|exact absurd hl (by decide)) ?_
  try simp only[Ab,A7,Aa,Am,A6,Ac,Ad]
  have hmk:m≤k9:=by omega
  refine Ex (i:=11) (by decide +kernel) rfl (by decide +kernel) (fun K hK=>?_)
  go_simp
  refine hK.out _ _ ?_
  clear hK K
  try simp only[Ab,A7,Aa,Am,A6,Ac,Ad]
  refine Ba (i:=12) (v:=(.pointer (some ⟨p,0,none⟩))) rfl (by kernel_rfl) (by kernel_rfl) (by kernel_rfl) (by decide) (fun _ _ _ h=>h) (Or.inl ⟨by rfl,by(intro w' hSw;go_simp)⟩) (fun hl=>by first|exact hS|exact absurd hl (by decide)) ?_
  try simp only[Ab,A7,Aa,Am,A6,Ac,Ad]
  refine Ba (i:=13) (v:=(.pointer (some ⟨p,48,none⟩))) rfl (by kernel_rfl) (by kernel_rfl) (by kernel_rfl) (by decide) (fun _ _ _ h=>h) (Or.inl ⟨by rfl,by(intro w' hSw;go_simp)⟩) (fun hl=>by first|exact hS|exact absurd hl (by decide)) ?_
  try simp only[Ab,A7,Aa,Am,A6,Ac,Ad]
  refine Ex (i:=14) (by decide +kernel) rfl (by decide +kernel) (fun K hK=>?_)
  go_simp
  refine hK.out _ _ ?_
  clear hK K;have HR:=A4 (H.out.chain (cc.set 48 (.slice A9 m k9)) { v with ask:=.slice A9 m k9 } { s with ask:=s.ask.dropLast } (by kernel_rfl) (fun w'' _ ht hd=>⟨hd.1,hd.2,hd.3,hd.4,hd.5,hd.6,Bg.pop (HV.out▸hd.7),hd.8⟩))
  refine Kw (by kernel_rfl) ?_ _
  clear cc;exact I129
theorem pG {v:SV}(h:Db w col p v s)(h13:(key==13)=false)(h10:(key==10)=false)(h27:(key==27)=false)(h8:(key==8)=false)(h127:(key==127)=false)(hk:key<32∨s.ask.length=200)(hq:s.told.length≤500000000000):
 Calls Tryz.prog 28 #[.pointer (some ⟨p,0,none⟩),.int .i64 key] w fun e w'=>e=.returned (.tuple #[])∧Br p w col (Fe s) w':=by
 have hb:=h.ses.blk;obtain⟨A9,n9,k9,hv9,ho9,hc9,hz9⟩:=h.ses.dat.here.ask;have hn:=ho9.ints.len;have d48:w.cell? ⟨p,48,none⟩=some (.slice A9 n9 k9):=(hb.cell 48).trans (congrArg some hv9);have HB:=A4 (Js h (by omega))
 rw[hn]at hk;clear h hb ho9 hc9 hz9 hv9 hn;by_cases h32:key<32
 ·have h32b:(decide (key<32))=true:=by simpa using h32
  clear hk;exact I39
 ·have h32b:(decide (key<32))=false:=by simpa using h32
  have hk:n9=200:=hk.resolve_left h32;subst hk;clear h32;exact I39
theorem tB {v:SV}(h:Db w col p v s)(h13:(key==13)=false)(h10:(key==10)=false)(h27:(key==27)=false)(h8:(key==8)=false)(h127:(key==127)=false)(hk:¬key<32)(hk2:s.ask.length<200):
 Calls Tryz.prog 28 #[.pointer (some ⟨p,0,none⟩),.int .i64 key] w fun e w'=>e=.returned (.tuple #[])∧Br p w col ({ s with ask:=s.ask++[key] }) w':=by
 have hb:=h.ses.blk;obtain⟨i0,hi,hz0,hz1,hz2⟩:=info_parts Bz;obtain⟨A9,n9,k9,hv9,ho9,hc9,hz9⟩:=h.ses.dat.here.ask;have hn:=ho9.ints.len;have d48:w.cell? ⟨p,48,none⟩=some (.slice A9 n9 k9):=(hb.cell 48).trans (congrArg some hv9);have hnb:(((n9:Nat):Int)==200)=false:=by simp;omega
 have h32b:(decide (key<32))=false:=by simpa using hk
 have HCl:=A4 (Cy ho9.ints hc9 hz9);have hn9:n9<200:=by omega
 have H:=A4 h;clear h hb ho9 hc9 hz9 hv9 hn hk hk2;go_enter Tryz.func28,Tryz.ntmps28
 go_wp2_with fail
 refine HCl.out.mono ?_
 rintro e w1 ⟨B,d,rfl,hoB,hcB,he⟩;have hb1:=H.out.ses.blk.ext he;have f48:=hb1.frozen 48;clear d48 HCl;go_wp2_with (at_builtin;refine Ci rfl (.tmp 9) (.tmp 11) 27 rfl w w.heap.size 3 i0 (.int .i64 0) 1 8 Tryz.underlying27 hi hz0 hz1 hz2 rfl (by decide) B n9 d _ rfl hoB #[.int .i64 key] rfl (by simp[Value.oneCell']) rfl (by unfold maxLen;omega) (by omega) he (Nat.le_refl _) he.hsize ?_)
 intro A2 c2 w3 hO2 hgr hor hx3;have hb3:=H.out.ses.blk.ext hx3;have g48:w3.cell? ⟨p,48,none⟩=some v.ask:=hb3.cell 48;have f48:=hb3.frozen 48;have HR:Hid (Br p w col { s with ask:=s.ask++[key] } (w3.setCell ⟨p,48,none⟩ (.slice A2 (n9+1) c2))):=A4 (by
  obtain⟨hm,ht⟩:=H.out.grow hx3 1;have hreg:Bg w3 w.heap.size (.slice A2 (n9+1) c2) (s.ask++[key]):=⟨A2,n9+1,c2,rfl,by unfold Av;rw[List.map_append];exact hO2,Ay.nocap' hO2,by omega⟩
  have hD:=Ht.reg (F:=fun k=>grow col w.heap.size w3.heap.size 1 k=1) hreg fun k h1 h2=>Hn h1 h2
  have c:=(Dh.start (Al.refl w3) hm.ses.blk).set 48 (.slice A2 (n9+1) c2);have hr:=hm.chainD hD c { v with ask:=.slice A2 (n9+1) c2 } { s with ask:=s.ask++[key] } (by kernel_rfl) fun w'' htr ho' hd'=>⟨hd'.1,hd'.2,hd'.3,hd'.4,hd'.5,hd'.6,ho',hd'.8⟩
  exact⟨_,_,hr.1,ht.trans hr.2⟩)
 clear hO2 hgr hor hx3 hb3;go_wp2_with fail
 go_end0
 exact⟨rfl,HR.out⟩
structure tT (K:Nat)(s:PS):Prop where
 wf:∀x∈s.tx,(Lit.int .i64 x).wf=true
 line:pL s
 past:s.past.length≤30
 first:s.first.length≤200
 told:s.told.length≤500000000000
 hist:∀k,(toL s.hi s.tx k).length≤4096
 ask:s.ask.length≤200
 does:∀c d,Pi s.tx s.rl s.at_ s.fk s.fa c=some d→d.tx.length≤4096
 dot:∀n c ks d,s.last=some (c,ks)→Pi s.tx s.rl s.at_ s.fk s.fa (Cf c n)=some d→(Ni s (Cf c n) d).mode≠0→pK K 500000000000 (Ni s (Cf c n) d)
 keys:∀c ks,s.last=some (c,ks)→(∀k∈ks,k≠27)∧ks.length≤2000000
 few:K≤2000000
theorem V4 {v:SV}(h:Db w col p v s)(ok:tT K s)(c:Cm):
 Calls Tryz.prog 34 #[.pointer (some ⟨p,0,none⟩),.agg (Ma c)] w fun e w'=>e=.returned (.tuple #[])∧Br p w col (Gf s c) w':=by
 obtain⟨k1,k2,k3,k4,k5⟩:=c;have hl:=ok.line.len;have hq:=ok.told;by_cases h3:k3≠0
 ·have e:Gf s ⟨k1,k2,k3,k4,k5⟩=doS s ⟨k1,k2,k3,k4,k5⟩:=if_pos h3
  rw[e];exact wI h hl hq ok.wf ok.past ok.does (by simpa using h3)
 ·have h3:k3=0:=Decidable.not_not.1 h3
  subst h3;unfold Gf;rw[if_neg (by simp)]
  by_cases h1:k4=117
  ·rw[if_pos (show(_:Int)=_ from h1)]
   subst h1;exact oO h hl hq ok.past
  rw[if_neg (show ¬(_:Int)=_ from h1)]
  by_cases h2:k4=85
  ·rw[if_pos (show(_:Int)=_ from h2)]
   subst h2;exact jI h hl hq ok.first ok.past
  rw[if_neg (show ¬(_:Int)=_ from h2)]
  by_cases h3:k4=46
  ·rw[if_pos (show(_:Int)=_ from h3)]
   subst h3;exact sQ h hl hq ok.wf ok.past ok.does (ok.dot k1) ok.keys ok.few
  rw[if_neg (show ¬(_:Int)=_ from h3)]
  by_cases h4:k4=107
  ·rw[if_pos (show(_:Int)=_ from h4)]
   subst h4;exact wH h hl (by omega) (ok.hist _)
  rw[if_neg (show ¬(_:Int)=_ from h4)]
  by_cases h5:k4=106
  ·rw[if_pos (show(_:Int)=_ from h5)]
   subst h5;exact oS h hl (by omega) (ok.hist _)
  rw[if_neg (show ¬(_:Int)=_ from h5)]
  by_cases h6:k4=71
  ·rw[if_pos (show(_:Int)=_ from h6)]
   subst h6;exact oR h hl (by omega) (ok.hist _)
  rw[if_neg (show ¬(_:Int)=_ from h6)]
  by_cases h7:k4=110∨k4=78
  ·rw[if_pos (show(_:Int)=_∨(_:Int)=_ from h7)]
   rcases h7 with h7|h7
   ·subst h7
    exact oQ h hl (by omega) (fun _ _=>ok.hist _)
   ·subst h7
    exact oP h hl (by omega) (fun _ _=>ok.hist _)
  rw[if_neg (show ¬((_:Int)=_∨(_:Int)=_)from h7)]
  by_cases h8:k4=47∨k4=63
  ·rw[if_pos (show(_:Int)=_∨(_:Int)=_ from h8)]
   rcases h8 with h8|h8
   ·subst h8
    exact jG h hl hq
   ·subst h8
    exact jH h hl hq
  rw[if_neg (show ¬((_:Int)=_∨(_:Int)=_)from h8)]
  have nb:∀{x:Int},k4≠x→(k4==x)=false:=fun h=>by simpa using h
  exact oN h hl hq ok.wf ok.past ok.does (nb h1) (nb h2) (nb h3) (nb h4) (nb h5) (nb h6) (nb fun e=>h7 (.inl e)) (nb fun e=>h7 (.inr e)) (nb fun e=>h8 (.inl e)) (nb fun e=>h8 (.inr e))
theorem Zv {v:SV}(h:Db w col p v s)(ok:tT K s)(c:Cm):
 Calls Tryz.prog 34 #[.pointer (some ⟨p,0,none⟩),.agg (Ma c)] w fun e w'=>e=.returned (.tuple #[])∧Br p w col (Gf s c) w':=V4 h ok c
theorem pE {v:SV}(h:Db w col p v s)(ok:tT K s)(key:Int):
 Calls Tryz.prog 28 #[.pointer (some ⟨p,0,none⟩),.int .i64 key] w fun e w'=>e=.returned (.tuple #[])∧Br p w col (P5 s key) w':=by
 have nb:∀{x:Int},key≠x→(key==x)=false:=fun h=>by simpa using h
 unfold P5;by_cases h1:key=13∨key=10
 ·rw[if_pos h1]
  exact kD h h1 ok.line.len ok.told (fun _ _=>ok.hist _)
 rw[if_neg h1];by_cases h2:key=27
 ·rw[if_pos h2]
  exact tA h h2
 rw[if_neg h2];by_cases h3:key=8∨key=127
 ·rw[if_pos h3]
  by_cases ha:s.ask=[]
  ·rw[if_pos ha]
   exact pF h h3 ha
  ·rw[if_neg ha]
   exact pH h h3 ha
 rw[if_neg h3];by_cases h4:key<32∨s.ask.length=200
 ·rw[if_pos h4]
  exact pG h (nb fun e=>h1 (.inl e)) (nb fun e=>h1 (.inr e)) (nb h2) (nb fun e=>h3 (.inl e)) (nb fun e=>h3 (.inr e)) h4 ok.told
 ·rw[if_neg h4]
  exact tB h (nb fun e=>h1 (.inl e)) (nb fun e=>h1 (.inr e)) (nb h2) (nb fun e=>h3 (.inl e)) (nb fun e=>h3 (.inr e)) (fun e=>h4 (.inl e)) (by have:=ok.ask;have:s.ask.length≠200:=fun e=>h4 (.inr e);omega)
end
