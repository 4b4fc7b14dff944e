/-
  Part ZViP.
-/
import Derived.Test.YtkaefdmhlmlhbaaGreatZDoV
import Derived.Test.YtkaefdmhlmlhbaaGreatZViG
set_option maxRecDepth 100000
set_option maxHeartbeats 16000000
set_option linter.unusedVariables false
set_option linter.unusedSimpArgs false
namespace Go.Proofs.YtkaefdmhlmlhbaaGreat
open Go.RowKit
open _root_.Array renaming getElem?_eq_none→Sb
open Act renaming put→Ap
open AllReadyH renaming cons→Ai,nil→Am
open _root_.List renaming getElem_cons_succ→Ab,getElem_cons_zero→Aa,getElem_toArray→Ac,setIfInBounds_toArray→A7,set_cons_succ→Ae,set_cons_zero→Ad
open _root_.Nat renaming lt_of_lt_of_le→Bq,zero_le→Aw
open Value renaming slice→Ak
open Region renaming wanted→Bs
section
variable {w w':World}{col:Nat→Nat}{rl:Nat→List Int}{r:Nat→Value}{s:PS}{cs vs:Array Value}{B A:Option Addr}{k1 k2 k5 a fk fa er:Int}{p q k b b':Nat}{l:List Int}{c:Cm}{xs:List Value}
def Ue (v:Int):Prop:=v=120∨v=88∨v=115∨v=83∨v=67∨v=68∨v=112∨v=80∨v=126∨v=114∨v=105∨v=73∨v=97∨v=65∨v=82
instance (v:Int):Decidable (Ue v):=by unfold Ue;infer_instance
def Zs (o v:Int):Bool:=if o=100∨o=99 then true else if o=121 then false else decide (Ue v)
theorem fO (w:World)(k1 k2 o v k5:Int):
 Calls Tryz.prog 138 #[.agg #[.int .i64 k1,.int .i64 k2,.int .i64 o,.int .i64 v,.int .i64 k5]] w fun e w'=>e=.returned (.bool (Zs o v))∧An w w':=by
 have hx:=A6 (An.alloc w (.cells #[.int .i64 k1,.int .i64 k2,.int .i64 o,.int .i64 v,.int .i64 k5] 62));by_cases a1:o=100
 ·subst a1
  exact I40
 by_cases a2:o=99
 ·subst a2
  exact I40
 have b1:(o==100)=false:=by simpa using a1
 have b2:(o==99)=false:=by simpa using a2
 by_cases a3:o=121
 ·subst a3
  exact I40
 have b3:(o==121)=false:=by simpa using a3
 have hc:Zs o v=decide (Ue v):=by unfold Zs;rw[if_neg (by omega),if_neg a3]
 by_cases hm:Ue v
 ·have hc':Hid (Zs o v=true):=A6 (by rw[hc];exact decide_eq_true hm)
  clear a1 a2 a3 hc;unfold Ue at hm;rcases hm with rfl|rfl|rfl|rfl|rfl|rfl|rfl|rfl|rfl|rfl|rfl|rfl|rfl|rfl|rfl
  all_goals
   go_enter Tryz.func138,Tryz.ntmps138
   go_wp2_with fail
   go_ret
   exact⟨by rw[hc'.out];rfl,hx.out⟩
 ·have hc':Hid (Zs o v=false):=A6 (by rw[hc];exact decide_eq_false hm)
  clear a1 a2 a3 hc;unfold Ue at hm;have c120:(v==120)=false:=by
   have:v≠120:=fun e=>hm (.inl e)
   simpa using this
  have c88:(v==88)=false:=by
   have:v≠88:=fun e=>hm (.inr (.inl e))
   simpa using this
  have c115:(v==115)=false:=by
   have:v≠115:=fun e=>hm (.inr (.inr (.inl e)))
   simpa using this
  have c83:(v==83)=false:=by
   have:v≠83:=fun e=>hm (.inr (.inr (.inr (.inl e))))
   simpa using this
  have c67:(v==67)=false:=by
   have:v≠67:=fun e=>hm (.inr (.inr (.inr (.inr (.inl e)))))
   simpa using this
  have c68:(v==68)=false:=by
   have:v≠68:=fun e=>hm (.inr (.inr (.inr (.inr (.inr (.inl e))))))
   simpa using this
  have c112:(v==112)=false:=by
   have:v≠112:=fun e=>hm (.inr (.inr (.inr (.inr (.inr (.inr (.inl e)))))))
   simpa using this
  have c80:(v==80)=false:=by
   have:v≠80:=fun e=>hm (.inr (.inr (.inr (.inr (.inr (.inr (.inr (.inl e))))))))
   simpa using this
  have c126:(v==126)=false:=by
   have:v≠126:=fun e=>hm (.inr (.inr (.inr (.inr (.inr (.inr (.inr (.inr (.inl e)))))))))
   simpa using this
  have c114:(v==114)=false:=by
   have:v≠114:=fun e=>hm (.inr (.inr (.inr (.inr (.inr (.inr (.inr (.inr (.inr (.inl e))))))))))
   simpa using this
  have c105:(v==105)=false:=by
   have:v≠105:=fun e=>hm (.inr (.inr (.inr (.inr (.inr (.inr (.inr (.inr (.inr (.inr (.inl e)))))))))))
   simpa using this
  have c73:(v==73)=false:=by
   have:v≠73:=fun e=>hm (.inr (.inr (.inr (.inr (.inr (.inr (.inr (.inr (.inr (.inr (.inr (.inl e))))))))))))
   simpa using this
  have c97:(v==97)=false:=by
   have:v≠97:=fun e=>hm (.inr (.inr (.inr (.inr (.inr (.inr (.inr (.inr (.inr (.inr (.inr (.inr (.inl e)))))))))))))
   simpa using this
  have c65:(v==65)=false:=by
   have:v≠65:=fun e=>hm (.inr (.inr (.inr (.inr (.inr (.inr (.inr (.inr (.inr (.inr (.inr (.inr (.inr (.inl e))))))))))))))
   simpa using this
  have c82:(v==82)=false:=by
   have:v≠82:=fun e=>hm (.inr (.inr (.inr (.inr (.inr (.inr (.inr (.inr (.inr (.inr (.inr (.inr (.inr (.inr (e)))))))))))))))
   simpa using this
  clear hm;go_enter Tryz.func138,Tryz.ntmps138
  go_wp2_with fail
  go_ret
  exact⟨by rw[hc'.out];rfl,hx.out⟩
theorem Kz.lower {m:List Int}{at_ md fk fa:Int}{e:List Ga}(h:Kz w b vs m at_ md fk fa rl e)(hb:b'≤b):Kz w b' vs m at_ md fk fa rl e:=
 {
  h with
  text:=let ⟨B,q,d,h1,h2⟩:=h.text;⟨B,q,d,h1,Bd.lower h2 hb⟩
  regs:=fun j hj=>let ⟨v,h1,h2⟩:=h.regs j hj;⟨v,h1,h2.lower hb⟩
  edit:=let ⟨v,h1,h2⟩:=h.edit;⟨v,h1,h2.lower hb⟩ }
structure Dn where
 tx:List Int
 at_:Int
 md:Int
 fk:Int
 fa:Int
 rl:Nat→List Int
def aD (l:List Int)(rl:Nat→List Int)(a fk fa:Int)(c:Cm)(d:Dn):Prop:=
 Qe l.length a c.count fk c.op∧∃ed,Kg l l.length a.toNat rl c.count c.reg (Jk c.op c.verb).1 (Jk c.op c.verb).2 c.arg fk fa d.tx d.at_ d.md d.fk d.fa d.rl ed
open Classical in
noncomputable def Nn (l:List Int)(rl:Nat→List Int)(a fk fa:Int)(c:Cm):Option Dn:=
 if h:∃d,aD l rl a fk fa c d then some h.choose else none
def DoR (o:Option Dn)(b:Nat)(vs:Array Value)(er:Int)(w:World):Prop:=
 (er=0∧∃d ed,o=some d∧Kz w b vs d.tx d.at_ d.md d.fk d.fa d.rl ed)∨(er≠0∧o=none∧vs=Ea)
theorem bH {d:Dn}(h:Nn l rl a fk fa c=some d):aD l rl a fk fa c d:=by
 unfold Nn at h;split at h
 ·rename_i hx
  injection h with h;rw[←h];exact hx.choose_spec
 ·cases h
theorem rZ (h:¬ ∃d,aD l rl a fk fa c d):Nn l rl a fk fa c=none:=by
 unfold Nn;rw[dif_neg h]
theorem dF {d:Dn}(h:aD l rl a fk fa c d):Nn l rl a fk fa c=some d:=by
 have hx:∃d,aD l rl a fk fa c d:=⟨d,h⟩;unfold Nn;rw[dif_pos hx];obtain⟨hv,ed,h1⟩:=h;obtain⟨_,ed',h2⟩:=hx.choose_spec;obtain⟨e1,e2,e3,e4,e5,e6,_⟩:=h2.one h1 (Pc hv.1.2.1 hv.1.2.2);generalize hx.choose=x at*;obtain⟨x1,x2,x3,x4,x5,x6⟩:=x;obtain⟨d1,d2,d3,d4,d5,d6⟩:=d;simp only at e1 e2 e3 e4 e5 e6;rw[e1,e2,e3,e4,e5,e6]
theorem J1i {n k:Nat}{rs:Array Value}(hl:Av w 0 A n k l)(wl:∀x∈l,(Lit.int .i64 x).wf=true)(hr:Kn w rs rl):
 Calls Tryz.prog 28 #[.agg #[.slice A n k,.int .i64 a],.agg rs,.agg #[.int .i64 fk,.int .i64 fa],.agg (Ni c)] w fun e w'=>∃u,e=.returned u∧(∃vs er,u=.tuple #[.agg vs,.int .i64 er]∧DoR (Nn l rl a fk fa c) w.heap.size vs er w')∧An w w':=by
 have hn:l.length=n:=hl.ints.len;refine(wJ hl.ints wl (Bd.nocap' hl) hr (a:=a) (fk:=fk) (fa:=fa) (k1:=c.count) (k2:=c.reg) (k3:=c.op) (k4:=c.verb) (k5:=c.arg)).mono ?_
 rintro e w' ⟨hx,⟨hno,er,her,rfl⟩|⟨vs,m,at_,md,zk,za,rl',ed,rfl,hv,hres,hrel⟩⟩
 ·refine⟨_,rfl,⟨_,er,rfl,.inr ⟨her,rZ fun⟨d,hv,ed,hrel⟩=>hno ?_,rfl⟩⟩,hx⟩
  rw[hn]at hv hrel;exact⟨hv,hrel.ok (fun h0=>(Y6 h0).1)⟩
 ·refine⟨_,rfl,⟨_,0,rfl,.inl ⟨rfl,⟨m,at_,md,zk,za,rl'⟩,ed,?_,hres.lower (by omega)⟩⟩,hx⟩
  rw[←hn]at hv hrel;exact dF ⟨hv,ed,hrel⟩
theorem Dh {P:Program}{o:Oper}{a:Act}(ty:TypeId)(x:Operand)(ho:o.op=.load ty x)(g off n:Nat)(hx:a.eval x=.pointer (some ⟨g,off,none⟩)){t:TypeId}(hg:Aq w g t cs)
 {vs:Array Value} (hv:cs.extract off (off+n)=vs) {d:TypeDesc} (hu:P.underlying ty=some d) (hd:(match d with|.struct _|.array _ _=>true|_=>false)=true) (hi:(P.info? ty).map (·.size)=some vs.size):
 (execOp a.eval o).run P w=.ok (.value (.agg vs)) w:=by
 have h:=Jg (P:=P) w g off t ty cs vs (0,0) d hg (fun j u hj=>by
  rw[←hv,Array.getElem?_extract]at hj;split at hj
  ·exact hj
  ·cases hj) hu hd hi
 unfold execOp;simp only[ho,hx,Instr.loadAt,Instr.sureAddr,Sem.run_bind,Sem.run_pure,Result.andThen_ok,h]
def S9 (B:Option Addr)(q k:Nat)(r:Nat→Value)(e:Value)(d:Dn):Array Value:=#[.slice B q k,.int .i64 d.at_,r 0,r 1,r 2,r 3,r 4,r 5,r 6,r 7,r 8,r 9,r 10,r 11,r 12,r 13,r 14,r 15,r 16,r 17,r 18,r 19,r 20,r 21,r 22,r 23,r 24,r 25,r 26,.int .i64 d.fk,.int .i64 d.fa,.int .i64 d.md,e]
structure Mp (w:World)(b:Nat)(B:Option Addr)(q k:Nat)(r:Nat→Value)(d:Dn):Prop where
 text:Av w b B q k d.tx
 regs:∀j,j<27→Bk w b (r j) (d.rl j)
theorem Mp.ext {d:Dn}(h:Mp w b B q k r d)(he:An w w'):Mp w' b B q k r d:=⟨h.text.ext he,fun j hj=>(h.regs j hj).ext he⟩
theorem Mp.lower {d:Dn}(h:Mp w b B q k r d)(hb:b'≤b):Mp w b' B q k r d:=⟨Bd.lower h.text hb,fun j hj=>(h.regs j hj).lower hb⟩
theorem uP {b e z n c:Nat}(h:Bd w b e z A n c xs)(hw:∀k,b≤k→k<w.heap.size→w'.heap[k]? = w.heap[k]?):Bd w' b e z A n c xs:=
 Bd.same h fun k hk=>hw k (Bd.blk h k hk).1 (Bd.blk h k hk).2
theorem Mp.win {d:Dn}(h:Mp w b B q k r d)(hw:∀k,b≤k→k<w.heap.size→w'.heap[k]? = w.heap[k]?):Mp w' b B q k r d:=
 ⟨uP h.text hw,fun j hj=>(h.regs j hj).win hw⟩
theorem iC {base e z n c g t:Nat}(h:Bd w base e z A n c xs)(hb:Aq w g t cs)(hne:t≠e)(us:Array Value):Bd (w.setRow g us) base e z A n c xs:=
 Bd.same h fun k hk=>Go.setRow_other w g k us fun e=>Nx h hb hne (by rw[hk,e])
theorem Mp.row {b g t:Nat}{d:Dn}(h:Mp w b B q k r d)(hb:Aq w g t cs)(ht:t≠3)(us:Array Value):Mp (w.setRow g us) b B q k r d:=
 ⟨iC h.text hb ht us,fun j hj=>by
  obtain⟨A,n,c,e,h1,h2⟩:=h.regs j hj;exact⟨A,n,c,e,iC h1 hb ht us,h2⟩⟩
theorem hY {d:Dn}{ed:List Ga}(h:Kz w b vs d.tx d.at_ d.md d.fk d.fa d.rl ed):∃B q k r e,vs=S9 B q k r e d∧Mp w b B q k r d∧vs.all (·.oneCell')=true:=by
 obtain⟨B,q,k,h1,h2⟩:=h.text;obtain⟨e,h3,_⟩:=h.edit;have hr:∀j,j<27→vs[2+j]? = some (vs[2+j]?.getD undef)∧Bk w b (vs[2+j]?.getD undef) (d.rl j):=fun j hj=>by
  obtain⟨v,e1,e2⟩:=h.regs j hj;rw[e1];exact⟨rfl,e2⟩
 refine⟨B,q,k,fun j=>vs[2+j]?.getD undef,e,?_,⟨h2,fun j hj=>(hr j hj).2⟩,h.one⟩
 refine Array.ext_getElem? fun i=>?_
 by_cases hi:33≤i
 ·rw[Sb (by rw[h.size];exact hi),Sb (by show 33≤i;exact hi)]
 ·match i,hi with
  |0,_=>exact h1
  |1,_=>exact h.oat
  |29,_=>exact h.c29
  |30,_=>exact h.c30
  |31,_=>exact h.c31
  |32,_=>exact h3
  |2,_=>exact(hr 0 (by decide)).1
  |3,_=>exact(hr 1 (by decide)).1
  |4,_=>exact(hr 2 (by decide)).1
  |5,_=>exact(hr 3 (by decide)).1
  |6,_=>exact(hr 4 (by decide)).1
  |7,_=>exact(hr 5 (by decide)).1
  |8,_=>exact(hr 6 (by decide)).1
  |9,_=>exact(hr 7 (by decide)).1
  |10,_=>exact(hr 8 (by decide)).1
  |11,_=>exact(hr 9 (by decide)).1
  |12,_=>exact(hr 10 (by decide)).1
  |13,_=>exact(hr 11 (by decide)).1
  |14,_=>exact(hr 12 (by decide)).1
  |15,_=>exact(hr 13 (by decide)).1
  |16,_=>exact(hr 14 (by decide)).1
  |17,_=>exact(hr 15 (by decide)).1
  |18,_=>exact(hr 16 (by decide)).1
  |19,_=>exact(hr 17 (by decide)).1
  |20,_=>exact(hr 18 (by decide)).1
  |21,_=>exact(hr 19 (by decide)).1
  |22,_=>exact(hr 20 (by decide)).1
  |23,_=>exact(hr 21 (by decide)).1
  |24,_=>exact(hr 22 (by decide)).1
  |25,_=>exact(hr 23 (by decide)).1
  |26,_=>exact(hr 24 (by decide)).1
  |27,_=>exact(hr 25 (by decide)).1
  |28,_=>exact(hr 26 (by decide)).1
  |n+33,h=>exact absurd (by omega) h
theorem Di.paint {p a b:Nat}{v:SV}(h:Di w col p v s)(hF:∀k,a≤k→k<b→col k=0)(hb:b≤w.heap.size):
 Di w (fun k=>if a≤k∧k<b then 1 else col k) p v s:=by
 have hz:∀k c,c≠0→col k=c→(if a≤k∧k<b then 1 else col k)=c:=fun k c hc e=>by
  rw[if_neg fun hk=>hc (e.symm.trans (hF k hk.1 hk.2))]
  exact e
 obtain⟨⟨h1,h2,h3,h4,h5⟩,h6,h7⟩:=h;refine⟨⟨h1,hz p 7 (by decide) h2,h3.mono fun k _ e=>hz k 1 (by decide) e,?_,fun k hk=>?_⟩,?_,?_⟩
 ·rcases hv:v.now with _|x<;>rcases hs:s.now with _|⟨c,l⟩<;>rw[hv,hs]at h4
  ·trivial
  ·exact h4
  ·exact h4
  ·obtain⟨g,y,e,g1,g2,g3,g4⟩:=h4
   exact⟨g,y,e,hz g 2 (by decide) g1,g2,g3,fun k hk=>hz k 3 (by decide) (g4 k hk)⟩
 ·by_cases hk':a≤k∧k<b
  ·omega
  ·have hk:(if a≤k∧k<b then 1 else col k)≠0:=hk
   rw[if_neg hk']at hk;exact h5 k hk
 ·obtain⟨A,n,c,xs,e,k1,k2,k3,k4⟩:=h6
  exact⟨A,n,c,xs,e,k1,k2,fun g hg=>hz g 4 (by decide) (k3 g hg),k4.mono fun k _ e=>hz k 5 (by decide) e⟩
 ·obtain⟨A,n,c,e,k1,k2⟩:=h7
  exact⟨A,n,c,e,k1,fun g hg=>hz g 6 (by decide) (k2 g hg)⟩
theorem Di.chg {v:SV}(h:Di w col p v s)(c:Cm):
 Bx p w col { s with now:=some (c,[]) } ((w.alloc (.cells (Ni c++#[nl]) 166)).setCell ⟨p,47,none⟩ (.pointer (some ⟨w.heap.size,0,none⟩))):=by
 have hx:=An.alloc w (.cells (Ni c++#[nl]) 166);have hb:=Aq.new w 166 (Ni c++#[nl]);obtain⟨hm0,ht0⟩:=h.grow hx 2;have hq:Go.Proofs.YtkaefdmhlmlhbaaGreat.grow col w.heap.size (w.alloc (.cells (Ni c++#[nl]) 166)).heap.size 2 w.heap.size=2:=Jf (Nat.le_refl _) hb.lt;have hne:p≠w.heap.size:=fun e=>by have:=h.ses.blk.lt;omega
 generalize Go.Proofs.YtkaefdmhlmlhbaaGreat.grow col w.heap.size (w.alloc (.cells (Ni c++#[nl]) 166)).heap.size 2=col1 at*;generalize w.alloc (.cells (Ni c++#[nl]) 166)=W at*;have h7:=hm0.ses.own;have cc:=(Dl.start (An.refl W) hm0.ses.blk).set 47 (.pointer (some ⟨w.heap.size,0,none⟩));have hm:∀c,c≠7→∀k,k<W.heap.size→k=p→col1 k≠c:=fun c hc k _ e=>by rw[e,h7];exact fun e=>hc e.symm
 exact⟨col1,{ v with now:=some ⟨w.heap.size,0,none⟩ },⟨⟨cc.to (by kernel_rfl),h7,(hm0.old cc.alt).imp fun _ h=>⟨h.1,h.2,h.3,h.4,h.5,h.6,h.7,h.8⟩,
  ⟨w.heap.size,nl,rfl,hq,cc.alt.blk hb (fun e=>hne e.symm),Bk.nil _ _,fun g hg=>by cases hg⟩,fun k hk=>Nat.lt_of_lt_of_le (hm0.ses.dom k hk) cc.alt.size⟩,
  hm0.told.turn cc.alt (fun k h1 h2=>⟨hm 4 (by decide) k h1 h2,hm 5 (by decide) k h1 h2⟩) fun _ _=>rfl,hm0.vis.turn cc.alt (hm 6 (by decide)) fun _ _=>rfl⟩,ht0.trans ⟨cc.alt.mono fun k _ e=>by rw[e,h7];decide,fun _ _ h=>h,fun _ _ h=>h⟩⟩
noncomputable def Gd (s:PS)(c:Cm):PS:=if Zs c.op c.verb then { Qs s with now:=some (c,[]) }else s
def Gr (s:PS)(d:Dn):PS:={ s with tx:=d.tx,at_:=d.at_,mode:=d.md,rl:=d.rl,fk:=d.fk,fa:=d.fa }
def Pz (s:PS):PS:=if s.mode=0 then { s with last:=s.now.or s.last,now:=none }else s
noncomputable def Pi (s:PS)(c:Cm)(d:Dn):PS:=Pz (Gr (Gd s c) d)
def tN (o:Option Dn)(b:Nat)(vs:Array Value)(er:Int)(w:World):Prop:=
 vs.size=33∧vs.all (·.oneCell')=true∧((er=0∧∃d B q k r e,o=some d∧vs=S9 B q k r e d∧Mp w b B q k r d)∨(er≠0∧o=none))
theorem DoR.v {o:Option Dn}(h:DoR o b vs er w)(hb:b'≤b):tN o b' vs er w:=by
 rcases h with⟨h0,d,ed,h1,h2⟩|⟨h0,h1,h2⟩
 ·obtain⟨B,q,k,r,e,e1,e2,e3⟩:=hY h2
  exact⟨h2.size,e3,.inl ⟨h0,d,B,q,k,r,e,h1,e1,e2.lower hb⟩⟩
 ·exact⟨by rw[h2];rfl,by rw[h2];exact P8,.inr ⟨h0,h1⟩⟩
theorem tN.ext {o:Option Dn}(h:tN o b vs er w)(he:An w w'):tN o b vs er w':=
 ⟨h.1,h.2.1,h.2.2.imp (fun⟨h0,d,B,q,k,r,e,h1,h2,h3⟩=>⟨h0,d,B,q,k,r,e,h1,h2,h3.ext he⟩) id⟩
theorem tN.row {o:Option Dn}{b g t:Nat}(h:tN o b vs er w)(hb:Aq w g t cs)(ht:t≠3)(us:Array Value):tN o b vs er (w.setRow g us):=
 ⟨h.1,h.2.1,h.2.2.imp (fun⟨h0,d,B,q,k,r,e,h1,h2,h3⟩=>⟨h0,d,B,q,k,r,e,h1,h2,h3.row hb ht us⟩) id⟩
theorem dZ (h:vs.size=cs.size):Mm cs 0 vs=vs:=by
 refine Array.ext_getElem? fun i=>?_
 rw[Cy (by omega),if_neg (Nat.not_lt_zero i)]
 split
 ·rfl
 ·rw[Sb (by omega),Sb (by omega)]
theorem Pq (r:Nat→Value)(i:Nat)(hi:i<27):(Mc r)[i]? = some (r i):=by
 exact I1
theorem eA (h:s.now=none):Pz s=s:=by
 unfold Pz;split
 ·cases s;simp only at h;subst h;rfl
 ·rfl
theorem uR (h:∀j,j<27→Bk w b (r j) (rl j)):(Mc r).all (·.oneCell')=true:=
 Kn.one (w:=w) (rs:=rl) ⟨rfl,fun i hi=>⟨r i,Pq r i hi,(h i hi).sl⟩⟩
theorem Uv {g t g':Nat}(h:Aq w g t cs)(hne:g'≠g)(i:Nat)(a:Value):Aq (w.setCell ⟨g',i,none⟩ a) g t cs:=Bn h hne i a
theorem yD {w x:World}{t:TypeId}(_:An w (x.alloc (.cells cs t))):∃g,g=x.heap.size∧Aq (x.alloc (.cells cs t)) g t cs:=⟨_,rfl,Aq.new x t cs⟩
theorem J0o {w W2 W4:World}{col col4:Nat→Nat}{p g5:Nat}{v v4:SV}{s s4:PS}{e:Value}{d:Dn}(h:Di w col p v s)(he:An w W2)(hb:Aq W2 g5 77 (S9 B q k r e d))(hg:w.heap.size≤g5)
 (hd:Mp W2 w.heap.size B q k r d) (hm:Di W4 col4 p v4 s4) (ht:Li W2 col W4 col4):
 Aq W4 g5 77 (S9 B q k r e d)∧p≠g5∧∃col5,Di W4 col5 p v4 s4∧Li w col W4 col5∧Hw (fun k=>col5 k=1) W4 fun x=>Mp x 0 B q k r d:=by
 have hz:∀k,w.heap.size≤k→col k=0:=fun k hk=>h.ses.lt hk
 have hz4:∀k,w.heap.size≤k→k<W2.heap.size→col4 k=0:=fun k h1 h2=>Decidable.byContradiction fun hn=>ht.2 k h2 hn (hz k h1)
 have hps:=h.ses.blk.lt;refine⟨ht.1.blk hb fun hn=>hn.1 (hz _ hg),by omega,_,hm.paint (a:=w.heap.size) (b:=W2.heap.size) hz4 ht.1.size,⟨?_,fun k hk hn=>?_,fun k hk e=>(if_neg (by omega)).trans (ht.3 k (Bq hk he.hsize) e)⟩,fun M w' ha hk=>?_⟩
 ·exact(he.alt _).trans ht.1 fun _ _ h=>h
 ·have hn:(if w.heap.size≤k∧k<W2.heap.size then 1 else col4 k)≠0:=hn
  rw[if_neg (by omega)]at hn
  exact ht.2 k (Bq hk he.hsize) hn
 ·refine(hd.win fun k h1 h2=>?_).lower (Aw _)
  have h4:=Bq h2 ht.1.size;exact(ha.block k h4 (hk k h4 (if_pos ⟨h1,h2⟩))).trans (ht.1.block k h2 fun hn=>hn.1 (hz k h1))
theorem cZ {v:SV}(h:Di w col p v s)(wl:∀x∈s.tx,(Lit.int .i64 x).wf=true)(hl:s.tx.length≤200)(hb:s.past.length≤30)(hq:s.told.length≤1000000000000)
 (hz:∀d,Nn s.tx s.rl s.at_ s.fk s.fa c=some d→d.tx.length≤4096):
 Calls Tryz.prog 91 #[.pointer (some ⟨p,0,none⟩),.agg (Ni c)] w fun e w'=>
  (Nn s.tx s.rl s.at_ s.fk s.fa c=none∧e=.returned (.bool false)∧Bx p w col (G8 s) w')∨(∃d,Nn s.tx s.rl s.at_ s.fk s.fa c=some d∧e=.returned (.bool true)∧Bx p w col (Pi s c d) w'):=by
 have hx:=An.alloc w (.cells (Ni c) 62);have hc0:=Aq.new w 62 (Ni c);have H:=A6 h;have HBL:Hid (∀wq,An w wq→_):=A6 fun wq he=>Kp (h.ext he) hq
 have HSV:Hid (∀wq,An w wq→_):=A6 fun wq he=>gY (h.ext he) hb
 have HLN:Hid (∀wq,An w wq→Calls Tryz.prog 34 #[.pointer (some ⟨p,0,none⟩)] wq fun e w'=>∃u,e=.returned u∧(∃A n c,u=.agg #[.slice A n c,.int .i64 s.at_]∧Av w' wq.heap.size A n c s.tx)∧An wq w'):=
  A6 fun wq he=>U8 (h.ext he) (by omega)
 have hrg:=h.ses.dat.here.regs.regs;have HDO:Hid (∀wq A n k,An w wq→Av wq 0 A n k s.tx→Calls Tryz.prog 28 #[.agg #[.slice A n k,.int .i64 s.at_],.agg (Mc v.r),.agg #[.int .i64 s.fk,.int .i64 s.fa],.agg (Ni c)] wq fun e w'=>
  ∃u,e=.returned u∧(∃vs er,u=.tuple #[.agg vs,.int .i64 er]∧tN (Nn s.tx s.rl s.at_ s.fk s.fa c) w.heap.size vs er w')∧An wq w'):=
  A6 fun wq A n k he ho=>(J1i ho wl (hrg.ext he)).mono fun e w' ⟨u,h1,⟨vs,er,h2,h3⟩,h4⟩=>⟨u,h1,⟨vs,er,h2,h3.v he.hsize⟩,h4⟩
 have HP:=A6 (fun wq (he:An w wq)=>h.ses.blk.ext he)
 have HZ:=A6 hz;have hlt:=h.ses.blk.lt;clear h wl hl hb hq hz hrg;go_enter Tryz.func91,Tryz.ntmps91
 go_upto_region 1 with fail
 generalize w.alloc (.cells (Ni c) 62)=Wa at*;have hcb:Aq Wa.drew w.heap.size 62 (Ni c):=hc0;have hxd:=hx.to_drew;refine wp_region_held_drew (S:=fun w'=>An w w'∧Aq w' w.heap.size 62 (Ni c)) (by kernel_rfl) ⟨hxd,hcb⟩ (fun hS=>?_)
 clear hc0 hx hcb hxd;refine Bf (i:=0) (v:=(.pointer (some ⟨p,0,none⟩))) rfl hS ?_
 refine Bf (i:=2) (v:=(.pointer (some ⟨p,0,none⟩))) rfl hS ?_
 refine Bf (i:=3) (v:=(.pointer (some ⟨p,0,none⟩))) rfl hS ?_
 refine Bf (i:=4) (v:=(.pointer (some ⟨p,3,none⟩))) rfl hS ?_
 refine Fs (i:=5) (v:=(.agg (Mc v.r))) rfl (fun w' hSw=>by exact Dh 38 (.tmp 12) rfl p 3 27 rfl (HP.out _ hSw.1) (by kernel_rfl) Tryz.underlying38 rfl (by kernel_rfl)) hS ?_
 refine Bf (i:=6) (v:=(.pointer (some ⟨p,0,none⟩))) rfl hS ?_
 refine Bf (i:=7) (v:=(.pointer (some ⟨p,0,none⟩))) rfl hS ?_
 refine Bf (i:=8) (v:=(.pointer (some ⟨p,30,none⟩))) rfl hS ?_
 refine Fs (i:=9) (v:=(.agg #[.int .i64 s.fk,.int .i64 s.fa])) rfl (fun w' hSw=>by exact Dh 36 (.tmp 16) rfl p 30 2 rfl (HP.out _ hSw.1) (by kernel_rfl) Tryz.underlying36 rfl (by kernel_rfl)) hS ?_
 refine Fs (i:=10) (v:=(.agg (Ni c))) rfl (fun w' hSw=>by exact Dh 62 (.tmp 3) rfl w.heap.size 0 5 rfl hSw.2 (by kernel_rfl) Tryz.underlying62 rfl (by kernel_rfl)) hS ?_
 generalize Wa.drew=cur at*
 iterate 3
  all_goals (first|refine wpAnyH_ready (rs:=[1,15]) (by decide +kernel) (by simp) (Ai rfl (fun K hK=>?_) (Ai rfl (fun K hK=>?_) Am))|refine wpAnyH_ready (rs:=[11,15]) (by decide +kernel) (by simp) (Ai rfl (fun K hK=>?_) (Ai rfl (fun K hK=>?_) Am))|refine wpAnyH_ready (rs:=[1]) (by decide +kernel) (by simp) (Ai rfl (fun K hK=>?_) Am)|refine wpAnyH_ready (rs:=[11]) (by decide +kernel) (by simp) (Ai rfl (fun K hK=>?_) Am)|refine wpAnyH_ready (rs:=[15]) (by decide +kernel) (by simp) (Ai rfl (fun K hK=>?_) Am))
  all_goals (first
   |(
    refine Cg rfl 28 #[.agg #[.slice A n k,.int .i64 s.at_],.agg (Mc v.r),.agg #[.int .i64 s.fk,.int .i64 s.fa],.agg (Ni c)] rfl (by kernel_rfl) (fun u w'=>∃vs er,u=.tuple #[.agg vs,.int .i64 er]∧tN (Nn s.tx s.rl s.at_ s.fk s.fa c) w.heap.size vs er w') (HDO.out _ A n k hS.1 hoL) ?_
    rintro u w3 ⟨vs,er,rfl,hR⟩ hE;refine hK.out _ _ ⟨hS.1.trans hE,hS.2.ext hE⟩ (fun hS'=>?_)
    clear hK K hoL
    try replace hb5:=Aq.ext hb5 hE
    replace hS:=hS';clear hS' hE
    try simp only[Ac,Aa,Ab,Ap,A7,Ad,Ae]
    refine Bf (i:=12) (v:=.tuple #[.agg vs,.int .i64 er]) rfl hS ?_
    refine Bf (i:=13) (v:=.agg vs) rfl hS ?_
    refine wpAnyH_take (i:=14) (v:=.int .i64 er) rfl (by kernel_rfl) (by kernel_rfl) (by kernel_rfl) (fun _ _ _ h=>h) (Or.inl ⟨by rfl,by(intro w' hSw;go_simp)⟩) hS ?_
    try simp only[Ac,Aa,Ab,Ap,A7,Ad,Ae])
   |(
    refine Cg rfl 34 #[.pointer (some ⟨p,0,none⟩)] rfl (by kernel_rfl) (fun u w'=>∃A n k,u=.agg #[.slice A n k,.int .i64 s.at_]∧Av w' (World.heap _).size A n k s.tx) (HLN.out _ hS.1) ?_
    rintro u w2 ⟨A,n,k,rfl,hoL⟩ hE;refine hK.out _ _ ⟨hS.1.trans hE,hS.2.ext hE⟩ (fun hS'=>?_)
    clear hK K;replace hoL:Av _ 0 A n k s.tx:=Bd.lower hoL (Aw _)
    try replace hb5:=Aq.ext hb5 hE
    replace hS:=hS';clear hS' hE
    try simp only[Ac,Aa,Ab,Ap,A7,Ad,Ae])
   |(
    go_simp
    refine hK.out _ _ ⟨hS.1.to_alloc (.cells Ea 77),hS.2.ext (An.alloc _ _)⟩ (fun hS'=>?_)
    clear hK K;have hE:=Lz hS'.1
    try replace hoL:=Av.ext hoL hE
    try replace hR:=hR.ext hE
    obtain⟨g5,hg5,hb5⟩:=yD hS'.1;have hz5:=hS.1.hsize;rw[←hg5]at hz5 ⊢;clear hg5;replace hS:=hS';clear hS' hE;generalize World.alloc _ _=nx at*
    try simp only[Ac,Aa,Ab,Ap,A7,Ad,Ae]))
 all_goals
  have hsz:=hR.1;have hon:=hR.2.1;refine wpAnyH_ready (rs:=[16]) (by decide +kernel) (by simp) (Ai rfl (fun K hK=>?_) Am)
  refine C9 rfl 77 (.tmp 5) (.tmp 20) rfl _ 0 vs rfl rfl 77 Ea hb5 (by rw[hsz];kernel_rfl) (by rw[hsz];decide) hon ?_
  rw[dZ (show vs.size=Ea.size from hsz)]
  have hR':=hR.row hb5 (by decide) vs
  have hb5':=hb5.setRow vs;have hn5:(_:Nat)≠w.heap.size:=Fo hb5 hS.2 (by decide)
  have hS':_∧_:=⟨hS.1.setRow hz5 vs,hS.2.setRow_other vs (fun e=>hn5 e.symm)⟩
  refine hK.out _ _ hS' (fun hS=>?_)
  clear hK K hS' hb5 hR;generalize World.setRow _ _ _=W1 at*
  try simp only[Ac,Aa,Ab,Ap,A7,Ad,Ae]
  refine wpAnyH_ready (rs:=[17]) (by decide +kernel) (by simp) (Ai rfl (fun K hK=>?_) Am)
  go_simp
  refine hK.out _ _ hS (fun _=>?_)
  clear hK K;refine wpAnyH_done (by kernel_rfl) ?_ _
  rcases hR'.2.2 with⟨rfl,d,B,q,k,r,e,hd,rfl,hDn⟩|⟨her,hd⟩
  ·have hone:(Mc r).all (·.oneCell')=true:=by
    have h9:=hDn.regs;exact uR h9
   have HW:=A6 hS.1;have HC:=A6 hS.2;have HB5:=A6 hb5';have HD:=A6 hd;have HDn:=A6 hDn;have HZ5:=A6 hz5;have e0:W1.cell? ⟨w.heap.size,0,none⟩=some (.int .i64 c.count):=hS.2.cell 0;have e1:W1.cell? ⟨w.heap.size,1,none⟩=some (.int .i64 c.reg):=hS.2.cell 1;have e2:W1.cell? ⟨w.heap.size,2,none⟩=some (.int .i64 c.op):=hS.2.cell 2;have e3:W1.cell? ⟨w.heap.size,3,none⟩=some (.int .i64 c.verb):=hS.2.cell 3;have e4:W1.cell? ⟨w.heap.size,4,none⟩=some (.int .i64 c.arg):=hS.2.cell 4;clear hb5' hR' hd hS hDn hz5 hsz hon hn5;go_wp2_with fail
   refine(fO W1 c.count c.reg c.op c.verb c.arg).mono ?_
   rintro e' W2 ⟨rfl,he2⟩;have HE2:=A6 he2;clear e0 e1 e2 e3 e4 he2;by_cases hcb:Zs c.op c.verb=true
   ·have N0:=trivial;exact K0
   ·have N1:=trivial;exact K0
  ·have hek:(er !=0)=true:=by simpa using her
   have HBl:=A6 (HBL.out _ hS.1);have HT:=A6 (show Li w col W1 col from⟨hS.1.alt _,fun _ _ h=>h,fun _ _ h=>h⟩)
   have HD:=A6 hd;clear hb5' hR' her hd hS;go_wp2_with fail
   refine HBl.out.mono ?_
   rintro e w6 ⟨rfl,hm⟩;have HMm:=A6 (Bx.trans HT.out hm);clear hm;go_wp2_with fail
   go_ret
   exact .inl ⟨HD.out,rfl,HMm.out⟩
structure tD (K T:Nat)(s:PS):Prop where
 line:tE s
 mode:s.mode=1∨s.mode=2
 keys:xZ K s
 told:s.told.length≤T
theorem tD.typed {K T:Nat}{key:Int}(h:tD K T s)(hk:key≠27):tD (K+1) (T+1) (Eo s key):=by
 obtain⟨⟨h1,h2,h3⟩,h4,h5,h6⟩:=h;unfold Eo;rw[if_neg hk];cases he:Jn s.mode s.tx s.at_.toNat key with
 |none=>exact⟨⟨h1,h2,h3⟩,h4,fun x hx=>Nat.le_succ_of_le (h5 x hx),by show(s.told++[_]).length≤_;simp;omega⟩
 |some r=>
  obtain⟨m,b⟩:=r;have hb:=V7 he h1 (by omega)
  refine⟨⟨hb.1,Int.natCast_nonneg b,by show(b:Int)≤(m.length:Int);omega⟩,h4,fun x hx=>?_,Nat.le_succ_of_le h6⟩
  have hx:s.now.map (fun x=>(x.1,x.2++[key]))=some x:=hx
  cases hn:s.now with
  |none=>rw[hn]at hx;cases hx
  |some y=>
   rw[hn]at hx;injection hx with hx;rw[←hx];have:=h5 y hn;simp;omega
def keysF (s:PS)(ks:List Int):PS:=ks.foldl Eo s
theorem lG (s:PS)(ks:List Int)(k:Int):keysF s (ks++[k])=Eo (keysF s ks) k:=by
 unfold keysF;rw[List.foldl_append]
 rfl
theorem tD.keysF {K T:Nat}(h:tD K T s):∀{ks:List Int},(∀k∈ks,k≠27)→tD (K+ks.length) (T+ks.length) (keysF s ks):=by
 intro ks
 induction ks generalizing s K T with
 |nil=>exact fun _=>h
 |cons k ks ih=>
  intro hk;have h1:=ih (h.typed (hk k List.mem_cons_self)) (fun x hx=>hk x (List.mem_cons_of_mem _ hx))
  have e:Go.Proofs.YtkaefdmhlmlhbaaGreat.keysF s (k::ks)=Go.Proofs.YtkaefdmhlmlhbaaGreat.keysF (Eo s k) ks:=rfl;exact I68
def Ck (c:Cm)(n:Int):Cm:=if 0<n then { c with count:=n }else c
noncomputable def Ge (s:PS)(n:Int):PS:=
 match s.last with
 |none=>G8 s
 |some (c,ks)=>
  match Nn s.tx s.rl s.at_ s.fk s.fa (Ck c n)with
  |none=>G8 s
  |some d=>if(Pi s (Ck c n) d).mode=0 then Pi s (Ck c n) d else Eo (keysF (Pi s (Ck c n) d) ks) 27
theorem Hw.chg_own {F:Nat→Prop}{q m k:Nat}{ks:List Int}(h:Hw F w fun x=>X3 x (some ⟨q,0,none⟩) (some (c,ks)))(hb:Aq w q 166 (Ni c++#[.slice A m k]))(ho:Av w 0 A m k ks)(hm:0<m):
 ∀g,(Ak A m k).ownBlock=some g→F g:=by
 intro g hg;refine Classical.byContradiction fun hn=>?_
 have ho':=ho;obtain⟨_,⟨_,h0⟩|⟨g',cap,cur,hv,_,hgb,_⟩⟩:=ho'
 ·omega
 ·rw[hv]at hg
  have hg:some g'=some g:=hg;injection hg with hg;subst hg;have hA:=Gz.row (t:=3) hgb (by decide) #[]
  obtain⟨q',y',e',hb',hy'⟩:=h _ _ hA (fun k _ hF e=>hn (e▸hF))
  injection e' with e';subst e';have hne:q≠g':=Fo hb (show Aq w g' 3 _ from hgb) (by decide)
  have hl:=congrArg Array.toList ((hb.setRow_other #[] hne).inj hb').2;have hy:Ak A m k=y':=by simpa[Ni]using hl
  obtain⟨A2,n2,c2,e2,ho2,_⟩:=hy';rw[←hy,hv]at e2;rw[hv]at hy;obtain⟨h1,⟨h3,h0⟩|⟨g2,cap2,cur2,hv2,_,hgb2,_,_,_,ht⟩⟩:=ho2
  ·rw[←e2]at h3
   cases h3
  ·rw[←e2]at hv2
   injection hv2 with hA2 hn2 hc2;injection hA2 with hA2;injection hA2 with hA2;subst hA2;have hz:=((show Aq w g' 3 _ from hgb).setRow #[]).inj (show Aq _ g' 3 _ from hgb2)
   rw[←hz.2]at ht;have hks:=ho.ints.len;simp at ht;have:ks=[]:=by simpa using ht.symm
   rw[this]at hks;simp at hks;omega
theorem kC {p K:Nat}{v:SV}{n:Int}(h:Di w col p v s)(wl:∀x∈s.tx,(Lit.int .i64 x).wf=true)(hl:s.tx.length≤200)(hb:s.past.length≤30)(hq:s.told.length≤500000000000)
 (hz:∀c d,Nn s.tx s.rl s.at_ s.fk s.fa c=some d→d.tx.length≤4096)
 (hD:∀c ks d,s.last=some (c,ks)→Nn s.tx s.rl s.at_ s.fk s.fa (Ck c n)=some d→(Pi s (Ck c n) d).mode≠0→tD K 500000000000 (Pi s (Ck c n) d)) (hks:∀c ks,s.last=some (c,ks)→(∀k∈ks,k≠27)∧ks.length≤2000000) (hK:K≤2000000):
 Calls Tryz.prog 94 #[.pointer (some ⟨p,0,none⟩),.int .i64 n] w fun e w'=>e=.returned (.tuple #[])∧Bx p w col (Ge s n) w':=by
 have hd:=h.ses.dat.here;have d46:w.cell? ⟨p,46,none⟩=some (.pointer v.last):=h.ses.blk.cell 46;have hc:=hd.last;rcases hv:v.last with _|a<;>rcases hs:s.last with _|⟨c,ks⟩<;>rw[hv,hs]at hc
 ·rw[hv]at d46
  have HB:=A6 (Kp h (by omega))
  have HF:Hid (Ge s n=G8 s):=A6 (by unfold Ge;rw[hs])
  clear h wl hl hb hq hz hD hks hd hc;go_enter Tryz.func94,Tryz.ntmps94
  go_wp2_with fail
  refine HB.out.mono ?_
  rintro e w1 ⟨rfl,h1⟩;have H1:=A6 h1;clear h1;exact I91
 ·exact hc.elim
 ·exact hc.elim
 ·obtain⟨q,y,rfl,hqb,hy⟩:=hc
  obtain⟨A,m,k,rfl,hyo,hyn⟩:=hy;rw[hv]at d46;have e0:w.cell? ⟨q,0,none⟩=some (.int .i64 c.count):=hqb.cell 0;have e1:w.cell? ⟨q,1,none⟩=some (.int .i64 c.reg):=hqb.cell 1;have e2:w.cell? ⟨q,2,none⟩=some (.int .i64 c.op):=hqb.cell 2;have e3:w.cell? ⟨q,3,none⟩=some (.int .i64 c.verb):=hqb.cell 3;have e4:w.cell? ⟨q,4,none⟩=some (.int .i64 c.arg):=hqb.cell 4;have e5:w.cell? ⟨q,5,none⟩=some (.slice A m k):=hqb.cell 5;have hlq:=hqb.lt;have hlp:=h.ses.blk.lt;have B4:=Aq.new w 166 #[.int .i64 c.count,.int .i64 c.reg,.int .i64 c.op,.int .i64 c.verb,.int .i64 c.arg,.slice A m k];have X4:=An.alloc w (.cells #[.int .i64 c.count,.int .i64 c.reg,.int .i64 c.op,.int .i64 c.verb,.int .i64 c.arg,.slice A m k] 166);have hdc:Hw (fun k=>col k=1) w fun x=>X3 x (some ⟨q,0,none⟩) (some (c,ks)):=h.ses.dat.imp fun x hx=>by have:=hx.last;rw[hv,hs]at this;exact this
  have hdi:Hw (fun k=>col k=1) w fun x=>Bl x A m k ks:=by
   rcases Nat.eq_zero_or_pos m with rfl|hm
   ·have hk0:ks=[]:=List.eq_nil_of_length_eq_zero hyo.ints.len
    subst hk0;exact fun _ _ _ _=>⟨rfl,Nat.zero_le _,hyo.ints.nmax,fun hh=>absurd hh (Nat.lt_irrefl 0)⟩
   ·exact(Hw.own hyo (hdc.chg_own hqb hyo hm)).imp fun x hx=>Av.ints hx
  have HDI:=A6 hdi;clear hdc hdi;have H:=A6 h;have HS:=A6 hs;have HWL:=A6 wl;have HL:=A6 hl;have HBB:=A6 hb;have HQ:=A6 hq;have HZ:=A6 hz;have HD:=A6 hD;have HKS:=A6 (hks c ks hs);have HYO:=A6 hyo;clear h wl hl hb hq hz hD hks hd hs hqb hyo;go_enter Tryz.func94,Tryz.ntmps94
  go_upto_region 3 with fail
  generalize w.alloc (.cells #[.int .i64 c.count,.int .i64 c.reg,.int .i64 c.op,.int .i64 c.verb,.int .i64 c.arg,.slice A m k] 166)=W4 at*;clear e0 e1 e2 e3 e4 e5 d46;have e0:W4.cell? ⟨w.heap.size,0,none⟩=some (.int .i64 c.count):=B4.cell 0;have e1:W4.cell? ⟨w.heap.size,1,none⟩=some (.int .i64 c.reg):=B4.cell 1;have e2:W4.cell? ⟨w.heap.size,2,none⟩=some (.int .i64 c.op):=B4.cell 2;have e3:W4.cell? ⟨w.heap.size,3,none⟩=some (.int .i64 c.verb):=B4.cell 3;have e4:W4.cell? ⟨w.heap.size,4,none⟩=some (.int .i64 c.arg):=B4.cell 4;have hz4:=X4.hsize;have B5:=Aq.new W4 62 (Ni c);have X5:=An.alloc W4 (.cells (Ni c) 62);unfold Ni at B5 X5;have B4':=B4.ext X5;have X5':=X4.trans X5;clear X4 X5 B4;go_upto_region 4 with fail
  generalize W4.alloc (.cells #[.int .i64 c.count,.int .i64 c.reg,.int .i64 c.op,.int .i64 c.verb,.int .i64 c.arg] 62)=W5 at*;clear e0 e1 e2 e3 e4;have fin:∀W6,An w W6→Aq W6 W4.heap.size 62 (Ni (Ck c n))→Aq W6 w.heap.size 166 #[.int .i64 c.count,.int .i64 c.reg,.int .i64 c.op,.int .i64 c.verb,.int .i64 c.arg,.slice A m k]→True:=fun _ _ _ _=>trivial
  clear fin;by_cases hn0:0<n
  ·have N0:=trivial;exact K4
  ·have N1:=trivial;exact K4
open Classical in
/-- moved, behind what the history answered. -/
theorem Ml {w0 w:World}{v:SV}{ok:Prop}{hi':Hi}{line:List Int}{e:Ending}(h:Di w0 col p v s)(he:An w0 w)(hq:s.told.length≤1000000000000)(hlen:ok→line.length≤4096)
 (hg:(ok∧∃u L m z,e=.returned (.tuple #[u,.slice L m z,.int .i64 0])∧Dc w w0.heap.size u hi'∧Av w w0.heap.size L m z line)∨(¬ok∧∃x:Int,e=.returned (.tuple #[.agg Dp,.slice none 0 0,.int .i64 x])∧x≠0)):
 ∃U L m z x,e=.returned (.tuple #[U,.slice L m z,.int .i64 x])∧
  Calls Tryz.prog 80 #[.pointer (some ⟨p,0,none⟩),U,.slice L m z,.int .i64 x] w fun e' w'=>e'=.returned (.tuple #[])∧Bx p w0 col (if ok then Ny s hi' line else G8 s) w':=by
 rcases hg with⟨hok,u,L,m,z,rfl,hO,hI⟩|⟨hno,x,rfl,hx⟩
 ·obtain⟨A,n,c,S,sn,sc,P,pn,pc,rfl⟩:=hO.form
  refine⟨_,L,m,z,0,rfl,?_⟩
  rw[if_pos hok];exact qF h he hO hI (by rw[←hI.ints.len];exact hlen hok)
 ·refine⟨_,none,0,0,x,rfl,?_⟩
  rw[if_neg hno];refine(qG (h.ext he) hx hq).mono fun e' w' ⟨h1,h2⟩=>⟨h1,?_⟩
  exact Bx.trans ⟨he.alt _,fun _ _ h=>h,fun _ _ h=>h⟩ h2
noncomputable def doS (s:PS)(c:Cm):PS:=match Nn s.tx s.rl s.at_ s.fk s.fa c with|none=>G8 s|some d=>Pi s c d
open Classical in
noncomputable def tG (s:PS)(k:Int):PS:=if Lh s.hi s.tx k∧(Hc k:Int)≤s.hi.at_ then Ny s (toH s.hi s.tx (s.hi.at_.toNat-Hc k)) (toL s.hi s.tx (s.hi.at_.toNat-Hc k))else G8 s
open Classical in
noncomputable def Qw (s:PS)(k:Int):PS:=if Lh s.hi s.tx k∧(Hc k:Int)+s.hi.at_≤(s.hi.lines.length:Int)then Ny s (toH s.hi s.tx (s.hi.at_.toNat+Hc k)) (toL s.hi s.tx (s.hi.at_.toNat+Hc k))else G8 s
open Classical in
noncomputable def Qt (s:PS)(k:Int):PS:=if Lh s.hi s.tx k∧k≤(s.hi.lines.length:Int)∧0<s.hi.lines.length then Ny s (toH s.hi s.tx (Qu k)) (toL s.hi s.tx (Qu k))else G8 s
open Classical in
noncomputable def Gp (s:PS)(pat:List Int)(older keep:Bool):PS:=
 if h:∃k,Zo s.hi s.tx pat older k∧k<s.hi.lines.length then Ny s (findH s.hi s.tx pat keep h.choose) (toL s.hi s.tx h.choose)else G8 s
def jB (s:PS)(older:Bool):PS:={ s with mode:=3,ask:=[],older:=older }
noncomputable def Fc (s:PS)(c:Cm):PS:=
 if c.op≠0 then doS s c
 else if c.verb=117 then Jx s
 else if c.verb=85 then Ln s
 else if c.verb=46 then Ge s c.count
 else if c.verb=107 then tG s c.count
 else if c.verb=106 then Qw s c.count
 else if c.verb=71 then Qt s c.count
 else if c.verb=110∨c.verb=78 then Gp s [] (s.hi.older !=(c.verb==78)) s.hi.older
 else if c.verb=47∨c.verb=63 then jB s (c.verb==47)
 else doS s c
theorem Ka {P:Program}{ops:Array Oper}{o:Oper}{a:Act}{K:Act→World→Prop}{Q:Exit→Act→World→Prop}{E:Prop}{ars:Array Operand}{tys:Array TypeId}(hgd:o.guard=none)
 (f:FuncId) (args:Array Value) (ho:o.op=.call { callee:=.value (.func f),args:=ars,argTypes:=tys }) (hrun:(execOp a.eval o).run P w=.ok (.enter f args) w) (R:Value→World→Prop)
 (hc:Calls P f args w fun e w'=>∃v,e=.returned v∧R v w') (h:∀v w',R v w'→K (a.put o.dst v) w'):if Bs o (yielded ops a.tmps)=true then Oper.wp P o a w K Q else E:=by
 have hw:Bs o (yielded ops a.tmps)=true:=by simp[Bs,hgd]
 rw[if_pos hw];exact I17
theorem J0u {v:SV}(h:Di w col p v s)(hl:s.tx.length≤200)(hq:s.told.length≤1000000000000)
 (hlen:(toL s.hi s.tx (s.hi.at_.toNat-Hc k1)).length≤4096):
 Calls Tryz.prog 66 #[.pointer (some ⟨p,0,none⟩),.agg #[.int .i64 k1,.int .i64 k2,.int .i64 0,.int .i64 107,.int .i64 k5]] w fun e w'=>e=.returned (.tuple #[])∧Bx p w col (tG s k1) w':=by
 have N0:=trivial;exact K13
theorem sJ {v:SV}(h:Di w col p v s)(hl:s.tx.length≤200)(hq:s.told.length≤1000000000000)
 (hlen:(toL s.hi s.tx (s.hi.at_.toNat+Hc k1)).length≤4096):
 Calls Tryz.prog 66 #[.pointer (some ⟨p,0,none⟩),.agg #[.int .i64 k1,.int .i64 k2,.int .i64 0,.int .i64 106,.int .i64 k5]] w fun e w'=>e=.returned (.tuple #[])∧Bx p w col (Qw s k1) w':=by
 have N1:=trivial;exact K13
theorem sI {v:SV}(h:Di w col p v s)(hl:s.tx.length≤200)(hq:s.told.length≤1000000000000)
 (hlen:(toL s.hi s.tx (Qu k1)).length≤4096):
 Calls Tryz.prog 66 #[.pointer (some ⟨p,0,none⟩),.agg #[.int .i64 k1,.int .i64 k2,.int .i64 0,.int .i64 71,.int .i64 k5]] w fun e w'=>e=.returned (.tuple #[])∧Bx p w col (Qt s k1) w':=by
 have N2:=trivial;exact K13
open Classical in
/-- moved, behind what was looked for in the history. -/
theorem Qk {w0 w:World}{v:SV}{pat:List Int}{older keep:Bool}{e:Ending}(h:Di w0 col p v s)(he:An w0 w)(hq:s.told.length≤1000000000000)(hlen:∀k,k<s.hi.lines.length→(toL s.hi s.tx k).length≤4096)
 (hg:(∃k,Zo s.hi s.tx pat older k∧k<s.hi.lines.length∧∃u L m z,e=.returned (.tuple #[u,.slice L m z,.int .i64 0])∧Dc w w0.heap.size u (findH s.hi s.tx pat keep k)∧Av w w0.heap.size L m z (toL s.hi s.tx k))∨((∀k,¬Zo s.hi s.tx pat older k)∧∃x:Int,e=.returned (.tuple #[.agg Dp,.slice none 0 0,.int .i64 x])∧x≠0)):
 ∃U L m z x,e=.returned (.tuple #[U,.slice L m z,.int .i64 x])∧
  Calls Tryz.prog 80 #[.pointer (some ⟨p,0,none⟩),U,.slice L m z,.int .i64 x] w fun e' w'=>e'=.returned (.tuple #[])∧Bx p w0 col (Gp s pat older keep) w':=by
 rcases hg with⟨k,hk,hkl,u,L,m,z,rfl,hO,hI⟩|⟨hno,x,rfl,hx⟩
 ·have hex:∃k,Zo s.hi s.tx pat older k∧k<s.hi.lines.length:=⟨k,hk,hkl⟩
  have hek:hex.choose=k:=by
   have h1:=hex.choose_spec.1.2.2.2;rw[hk.2.2.2]at h1;injection h1 with h1;exact h1.symm
  have hS:Gp s pat older keep=Ny s (findH s.hi s.tx pat keep k) (toL s.hi s.tx k):=by
   unfold Gp;rw[dif_pos hex,hek]
  rw[hS];obtain⟨U,L',m',z',x,e',hc⟩:=Ml (ok:=True) (hi':=findH s.hi s.tx pat keep k) (line:=toL s.hi s.tx k) h he hq (fun _=>hlen k hkl) (Or.inl ⟨trivial,u,L,m,z,rfl,hO,hI⟩)
  rw[if_pos trivial]at hc;exact⟨U,L',m',z',x,e',hc⟩
 ·have hS:Gp s pat older keep=G8 s:=by
   unfold Gp;rw[dif_neg fun⟨k,hk,_⟩=>hno k hk]
  rw[hS];obtain⟨U,L',m',z',x',e',hc⟩:=Ml (ok:=False) (hi':=s.hi) (line:=[]) h he hq nofun (Or.inr ⟨id,x,rfl,hx⟩);rw[if_neg id]at hc;exact⟨U,L',m',z',x',e',hc⟩
theorem sH {v:SV}(h:Di w col p v s)(hl:s.tx.length≤200)(hq:s.told.length≤1000000000000)
 (hlen:∀k,k<s.hi.lines.length→(toL s.hi s.tx k).length≤4096):
 Calls Tryz.prog 66 #[.pointer (some ⟨p,0,none⟩),.agg #[.int .i64 k1,.int .i64 k2,.int .i64 0,.int .i64 110,.int .i64 k5]] w fun e w'=>e=.returned (.tuple #[])∧Bx p w col (Gp s [] (s.hi.older !=false) s.hi.older) w':=by
 have N3:=trivial;exact K13
theorem sG {v:SV}(h:Di w col p v s)(hl:s.tx.length≤200)(hq:s.told.length≤1000000000000)
 (hlen:∀k,k<s.hi.lines.length→(toL s.hi s.tx k).length≤4096):
 Calls Tryz.prog 66 #[.pointer (some ⟨p,0,none⟩),.agg #[.int .i64 k1,.int .i64 k2,.int .i64 0,.int .i64 78,.int .i64 k5]] w fun e w'=>e=.returned (.tuple #[])∧Bx p w col (Gp s [] (s.hi.older !=true) s.hi.older) w':=by
 have N4:=trivial;exact K13
end
