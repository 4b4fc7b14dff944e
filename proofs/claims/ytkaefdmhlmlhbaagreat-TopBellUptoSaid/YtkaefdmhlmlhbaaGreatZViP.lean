/-
  Part of the proof: ZViP.
-/
import Derived.Test.YtkaefdmhlmlhbaaGreatZDoV
import Derived.Test.YtkaefdmhlmlhbaaGreatZViG
set_option maxRecDepth 100000
set_option maxHeartbeats 16000000
set_option linter.unusedVariables false
set_option linter.unusedSimpArgs false
namespace Go.Proofs.YtkaefdmhlmlhbaaGreat
open Go.RowKit
open _root_.Array renaming getElem?_eq_none→Ri
open Act renaming put→An
open AllReadyH renaming cons→Ai,nil→Al
open _root_.List renaming getElem_cons_succ→Ab,getElem_cons_zero→Aa,getElem_toArray→Ac,setIfInBounds_toArray→A7,set_cons_succ→Ae,set_cons_zero→Ad
open _root_.Nat renaming lt_of_lt_of_le→Bn,zero_le→Au
open Value renaming slice→Ak
open Region renaming wanted→Bp
def To (v:Int):Prop:=v=120∨v=88∨v=115∨v=83∨v=67∨v=68∨v=112∨v=80∨v=126∨v=114∨v=105∨v=73∨v=97∨v=65∨v=82
instance (v:Int):Decidable (To v):=by unfold To;infer_instance
def Yz (o v:Int):Bool:=if o=100∨o=99 then true else if o=121 then false else decide (To v)
theorem J4d (w:World)(k1 k2 o v k5:Int):
 Calls Tryz.prog 138 #[.agg #[.int .i64 k1,.int .i64 k2,.int .i64 o,.int .i64 v,.int .i64 k5]] w fun e w'=>e=.returned (.bool (Yz o v))∧Am w w':=by
 have hx:=A6 (Am.alloc w (.cells #[.int .i64 k1,.int .i64 k2,.int .i64 o,.int .i64 v,.int .i64 k5] 62));by_cases a1:o=100
 ·subst a1
  exact I39
 by_cases a2:o=99
 ·subst a2
  exact I39
 have b1:(o==100)=false:=by simpa using a1
 have b2:(o==99)=false:=by simpa using a2
 by_cases a3:o=121
 ·subst a3
  exact I39
 have b3:(o==121)=false:=by simpa using a3
 have hc:Yz o v=decide (To v):=by unfold Yz;rw[if_neg (by omega),if_neg a3]
 by_cases hm:To v
 ·have hc':Hid (Yz o v=true):=A6 (by rw[hc];exact decide_eq_true hm)
  clear a1 a2 a3 hc;unfold To at hm;rcases hm with rfl|rfl|rfl|rfl|rfl|rfl|rfl|rfl|rfl|rfl|rfl|rfl|rfl|rfl|rfl
  all_goals
   go_enter Tryz.func138,Tryz.ntmps138
   go_wp2_with fail
   go_ret
   exact⟨by rw[hc'.out];rfl,hx.out⟩
 ·have hc':Hid (Yz o v=false):=A6 (by rw[hc];exact decide_eq_false hm)
  clear a1 a2 a3 hc;unfold To at hm;have c120:(v==120)=false:=by
   have:v≠120:=fun e=>hm (.inl e)
   simpa using this
  have c88:(v==88)=false:=by
   have:v≠88:=fun e=>hm (.inr (.inl e))
   simpa using this
  have c115:(v==115)=false:=by
   have:v≠115:=fun e=>hm (.inr (.inr (.inl e)))
   simpa using this
  have c83:(v==83)=false:=by
   have:v≠83:=fun e=>hm (.inr (.inr (.inr (.inl e))))
   simpa using this
  have c67:(v==67)=false:=by
   have:v≠67:=fun e=>hm (.inr (.inr (.inr (.inr (.inl e)))))
   simpa using this
  have c68:(v==68)=false:=by
   have:v≠68:=fun e=>hm (.inr (.inr (.inr (.inr (.inr (.inl e))))))
   simpa using this
  have c112:(v==112)=false:=by
   have:v≠112:=fun e=>hm (.inr (.inr (.inr (.inr (.inr (.inr (.inl e)))))))
   simpa using this
  have c80:(v==80)=false:=by
   have:v≠80:=fun e=>hm (.inr (.inr (.inr (.inr (.inr (.inr (.inr (.inl e))))))))
   simpa using this
  have c126:(v==126)=false:=by
   have:v≠126:=fun e=>hm (.inr (.inr (.inr (.inr (.inr (.inr (.inr (.inr (.inl e)))))))))
   simpa using this
  have c114:(v==114)=false:=by
   have:v≠114:=fun e=>hm (.inr (.inr (.inr (.inr (.inr (.inr (.inr (.inr (.inr (.inl e))))))))))
   simpa using this
  have c105:(v==105)=false:=by
   have:v≠105:=fun e=>hm (.inr (.inr (.inr (.inr (.inr (.inr (.inr (.inr (.inr (.inr (.inl e)))))))))))
   simpa using this
  have c73:(v==73)=false:=by
   have:v≠73:=fun e=>hm (.inr (.inr (.inr (.inr (.inr (.inr (.inr (.inr (.inr (.inr (.inr (.inl e))))))))))))
   simpa using this
  have c97:(v==97)=false:=by
   have:v≠97:=fun e=>hm (.inr (.inr (.inr (.inr (.inr (.inr (.inr (.inr (.inr (.inr (.inr (.inr (.inl e)))))))))))))
   simpa using this
  have c65:(v==65)=false:=by
   have:v≠65:=fun e=>hm (.inr (.inr (.inr (.inr (.inr (.inr (.inr (.inr (.inr (.inr (.inr (.inr (.inr (.inl e))))))))))))))
   simpa using this
  have c82:(v==82)=false:=by
   have:v≠82:=fun e=>hm (.inr (.inr (.inr (.inr (.inr (.inr (.inr (.inr (.inr (.inr (.inr (.inr (.inr (.inr (e)))))))))))))))
   simpa using this
  clear hm;go_enter Tryz.func138,Tryz.ntmps138
  go_wp2_with fail
  go_ret
  exact⟨by rw[hc'.out];rfl,hx.out⟩
theorem Km.lower {w:World}{b b':Nat}{vs:Array Value}{m:List Int}{at_ md fk fa:Int}{rl:Nat→List Int}{e:List Fw}(h:Km w b vs m at_ md fk fa rl e)(hb:b'≤b):Km w b' vs m at_ md fk fa rl e:=
 {
  h with
  text:=let ⟨B,q,d,h1,h2⟩:=h.text;⟨B,q,d,h1,B8.lower h2 hb⟩
  regs:=fun j hj=>let ⟨v,h1,h2⟩:=h.regs j hj;⟨v,h1,h2.lower hb⟩
  edit:=let ⟨v,h1,h2⟩:=h.edit;⟨v,h1,h2.lower hb⟩ }
structure Dn where
 tx:List Int
 at_:Int
 md:Int
 fk:Int
 fa:Int
 rl:Nat→List Int
def Z8 (l:List Int)(rl:Nat→List Int)(a fk fa:Int)(c:Cm)(d:Dn):Prop:=
 Ps l.length a c.count fk c.op∧∃ed,Ju l l.length a.toNat rl c.count c.reg (J8 c.op c.verb).1 (J8 c.op c.verb).2 c.arg fk fa d.tx d.at_ d.md d.fk d.fa d.rl ed
open Classical in
noncomputable def Mh (l:List Int)(rl:Nat→List Int)(a fk fa:Int)(c:Cm):Option Dn:=
 if h:∃d,Z8 l rl a fk fa c d then some h.choose else none
def DoR (o:Option Dn)(b:Nat)(vs:Array Value)(er:Int)(w:World):Prop:=
 (er=0∧∃d ed,o=some d∧Km w b vs d.tx d.at_ d.md d.fk d.fa d.rl ed)∨(er≠0∧o=none∧vs=Fy)
theorem J0b {l:List Int}{rl:Nat→List Int}{a fk fa:Int}{c:Cm}{d:Dn}(h:Mh l rl a fk fa c=some d):Z8 l rl a fk fa c d:=by
 unfold Mh at h;split at h
 ·rename_i hx
  injection h with h;rw[←h];exact hx.choose_spec
 ·cases h
theorem Q4h {l:List Int}{rl:Nat→List Int}{a fk fa:Int}{c:Cm}(h:¬ ∃d,Z8 l rl a fk fa c d):Mh l rl a fk fa c=none:=by
 unfold Mh;rw[dif_neg h]
theorem J1t {l:List Int}{rl:Nat→List Int}{a fk fa:Int}{c:Cm}{d:Dn}(h:Z8 l rl a fk fa c d):Mh l rl a fk fa c=some d:=by
 have hx:∃d,Z8 l rl a fk fa c d:=⟨d,h⟩;unfold Mh;rw[dif_pos hx];obtain⟨hv,ed,h1⟩:=h;obtain⟨_,ed',h2⟩:=hx.choose_spec;obtain⟨e1,e2,e3,e4,e5,e6,_⟩:=h2.one h1 (Nq hv.1.2.1 hv.1.2.2);generalize hx.choose=x at*;obtain⟨x1,x2,x3,x4,x5,x6⟩:=x;obtain⟨d1,d2,d3,d4,d5,d6⟩:=d;simp only at e1 e2 e3 e4 e5 e6;rw[e1,e2,e3,e4,e5,e6]
theorem Z3n {w:World}{A:Option Addr}{n k:Nat}{a fk fa:Int}{c:Cm}{l:List Int}{rs:Array Value}{rl:Nat→List Int}(hl:Ay w 0 A n k l)(wl:∀x∈l,(Lit.int .i64 x).wf=true)(hr:Kl w rs rl):
 Calls Tryz.prog 28 #[.agg #[.slice A n k,.int .i64 a],.agg rs,.agg #[.int .i64 fk,.int .i64 fa],.agg (Mw c)] w fun e w'=>∃u,e=.returned u∧(∃vs er,u=.tuple #[.agg vs,.int .i64 er]∧DoR (Mh l rl a fk fa c) w.heap.size vs er w')∧Am w w':=by
 have hn:l.length=n:=hl.ints.len;refine(Q7y hl.ints wl (B8.nocap' hl) hr (a:=a) (fk:=fk) (fa:=fa) (k1:=c.count) (k2:=c.reg) (k3:=c.op) (k4:=c.verb) (k5:=c.arg)).mono ?_
 rintro e w' ⟨hx,⟨hno,er,her,rfl⟩|⟨vs,m,at_,md,zk,za,rl',ed,rfl,hv,hres,hrel⟩⟩
 ·refine⟨_,rfl,⟨_,er,rfl,.inr ⟨her,Q4h fun⟨d,hv,ed,hrel⟩=>hno ?_,rfl⟩⟩,hx⟩
  rw[hn]at hv hrel;exact⟨hv,hrel.ok (fun h0=>(Xb h0).1)⟩
 ·refine⟨_,rfl,⟨_,0,rfl,.inl ⟨rfl,⟨m,at_,md,zk,za,rl'⟩,ed,?_,hres.lower (by omega)⟩⟩,hx⟩
  rw[←hn]at hv hrel;exact J1t ⟨hv,ed,hrel⟩
theorem Dg {P:Program}{o:Oper}{a:Act}{w:World}(ty:TypeId)(x:Operand)(ho:o.op=.load ty x)(g off n:Nat)(hx:a.eval x=.pointer (some ⟨g,off,none⟩)){t:TypeId}{cs:Array Value}(hg:Ap w g t cs)
 {vs:Array Value} (hv:cs.extract off (off+n)=vs) {d:TypeDesc} (hu:P.underlying ty=some d) (hd:(match d with|.struct _|.array _ _=>true|_=>false)=true) (hi:(P.info? ty).map (·.size)=some vs.size):
 (execOp a.eval o).run P w=.ok (.value (.agg vs)) w:=by
 have h:=J5 (P:=P) w g off t ty cs vs (0,0) d hg (fun j u hj=>by
  rw[←hv,Array.getElem?_extract]at hj;split at hj
  ·exact hj
  ·cases hj) hu hd hi
 unfold execOp;simp only[ho,hx,Instr.loadAt,Instr.sureAddr,Sem.run_bind,Sem.run_pure,Result.andThen_ok,h]
def J9z (B:Option Addr)(q k:Nat)(r:Nat→Value)(e:Value)(d:Dn):Array Value:=#[.slice B q k,.int .i64 d.at_,r 0,r 1,r 2,r 3,r 4,r 5,r 6,r 7,r 8,r 9,r 10,r 11,r 12,r 13,r 14,r 15,r 16,r 17,r 18,r 19,r 20,r 21,r 22,r 23,r 24,r 25,r 26,.int .i64 d.fk,.int .i64 d.fa,.int .i64 d.md,e]
structure Pd (w:World)(b:Nat)(B:Option Addr)(q k:Nat)(r:Nat→Value)(d:Dn):Prop where
 text:Ay w b B q k d.tx
 regs:∀j,j<27→Bi w b (r j) (d.rl j)
theorem Pd.ext {w w':World}{b:Nat}{B:Option Addr}{q k:Nat}{r:Nat→Value}{d:Dn}(h:Pd w b B q k r d)(he:Am w w'):Pd w' b B q k r d:=⟨h.text.ext he,fun j hj=>(h.regs j hj).ext he⟩
theorem Pd.lower {w:World}{b b':Nat}{B:Option Addr}{q k:Nat}{r:Nat→Value}{d:Dn}(h:Pd w b B q k r d)(hb:b'≤b):Pd w b' B q k r d:=⟨B8.lower h.text hb,fun j hj=>(h.regs j hj).lower hb⟩
theorem Q6e {w w':World}{b e z n c:Nat}{A:Option Addr}{xs:List Value}(h:B8 w b e z A n c xs)(hw:∀k,b≤k→k<w.heap.size→w'.heap[k]? = w.heap[k]?):B8 w' b e z A n c xs:=
 B8.same h fun k hk=>hw k (B8.blk h k hk).1 (B8.blk h k hk).2
theorem Pd.win {w w':World}{b:Nat}{B:Option Addr}{q k:Nat}{r:Nat→Value}{d:Dn}(h:Pd w b B q k r d)(hw:∀k,b≤k→k<w.heap.size→w'.heap[k]? = w.heap[k]?):Pd w' b B q k r d:=
 ⟨Q6e h.text hw,fun j hj=>(h.regs j hj).win hw⟩
theorem J5g {w:World}{base e z n c g t:Nat}{A:Option Addr}{xs:List Value}{cs:Array Value}(h:B8 w base e z A n c xs)(hb:Ap w g t cs)(hne:t≠e)(us:Array Value):B8 (w.setRow g us) base e z A n c xs:=
 B8.same h fun k hk=>Go.setRow_other w g k us fun e=>Nd h hb hne (by rw[hk,e])
theorem Pd.row {w:World}{b g t:Nat}{cs:Array Value}{B:Option Addr}{q k:Nat}{r:Nat→Value}{d:Dn}(h:Pd w b B q k r d)(hb:Ap w g t cs)(ht:t≠3)(us:Array Value):Pd (w.setRow g us) b B q k r d:=
 ⟨J5g h.text hb ht us,fun j hj=>by
  obtain⟨A,n,c,e,h1,h2⟩:=h.regs j hj;exact⟨A,n,c,e,J5g h1 hb ht us,h2⟩⟩
theorem Q5v {w:World}{b:Nat}{vs:Array Value}{d:Dn}{ed:List Fw}(h:Km w b vs d.tx d.at_ d.md d.fk d.fa d.rl ed):∃B q k r e,vs=J9z B q k r e d∧Pd w b B q k r d∧vs.all (·.oneCell')=true:=by
 obtain⟨B,q,k,h1,h2⟩:=h.text;obtain⟨e,h3,_⟩:=h.edit;have hr:∀j,j<27→vs[2+j]? = some (vs[2+j]?.getD undef)∧Bi w b (vs[2+j]?.getD undef) (d.rl j):=fun j hj=>by
  obtain⟨v,e1,e2⟩:=h.regs j hj;rw[e1];exact⟨rfl,e2⟩
 refine⟨B,q,k,fun j=>vs[2+j]?.getD undef,e,?_,⟨h2,fun j hj=>(hr j hj).2⟩,h.one⟩
 refine Array.ext_getElem? fun i=>?_
 by_cases hi:33≤i
 ·rw[Ri (by rw[h.size];exact hi),Ri (by show 33≤i;exact hi)]
 ·match i,hi with
  |0,_=>exact h1
  |1,_=>exact h.oat
  |29,_=>exact h.c29
  |30,_=>exact h.c30
  |31,_=>exact h.c31
  |32,_=>exact h3
  |2,_=>exact(hr 0 (by decide)).1
  |3,_=>exact(hr 1 (by decide)).1
  |4,_=>exact(hr 2 (by decide)).1
  |5,_=>exact(hr 3 (by decide)).1
  |6,_=>exact(hr 4 (by decide)).1
  |7,_=>exact(hr 5 (by decide)).1
  |8,_=>exact(hr 6 (by decide)).1
  |9,_=>exact(hr 7 (by decide)).1
  |10,_=>exact(hr 8 (by decide)).1
  |11,_=>exact(hr 9 (by decide)).1
  |12,_=>exact(hr 10 (by decide)).1
  |13,_=>exact(hr 11 (by decide)).1
  |14,_=>exact(hr 12 (by decide)).1
  |15,_=>exact(hr 13 (by decide)).1
  |16,_=>exact(hr 14 (by decide)).1
  |17,_=>exact(hr 15 (by decide)).1
  |18,_=>exact(hr 16 (by decide)).1
  |19,_=>exact(hr 17 (by decide)).1
  |20,_=>exact(hr 18 (by decide)).1
  |21,_=>exact(hr 19 (by decide)).1
  |22,_=>exact(hr 20 (by decide)).1
  |23,_=>exact(hr 21 (by decide)).1
  |24,_=>exact(hr 22 (by decide)).1
  |25,_=>exact(hr 23 (by decide)).1
  |26,_=>exact(hr 24 (by decide)).1
  |27,_=>exact(hr 25 (by decide)).1
  |28,_=>exact(hr 26 (by decide)).1
  |n+33,h=>exact absurd (by omega) h
theorem Dk.paint {w:World}{col:Nat→Nat}{p a b:Nat}{v:SV}{s:PS}(h:Dk w col p v s)(hF:∀k,a≤k→k<b→col k=0)(hb:b≤w.heap.size):
 Dk w (fun k=>if a≤k∧k<b then 1 else col k) p v s:=by
 have hz:∀k c,c≠0→col k=c→(if a≤k∧k<b then 1 else col k)=c:=fun k c hc e=>by
  rw[if_neg fun hk=>hc (e.symm.trans (hF k hk.1 hk.2))]
  exact e
 obtain⟨⟨h1,h2,h3,h4,h5⟩,h6,h7⟩:=h;refine⟨⟨h1,hz p 7 (by decide) h2,h3.mono fun k _ e=>hz k 1 (by decide) e,?_,fun k hk=>?_⟩,?_,?_⟩
 ·rcases hv:v.now with _|x<;>rcases hs:s.now with _|⟨c,l⟩<;>rw[hv,hs]at h4
  ·trivial
  ·exact h4
  ·exact h4
  ·obtain⟨g,y,e,g1,g2,g3,g4⟩:=h4
   exact⟨g,y,e,hz g 2 (by decide) g1,g2,g3,fun k hk=>hz k 3 (by decide) (g4 k hk)⟩
 ·by_cases hk':a≤k∧k<b
  ·omega
  ·have hk:(if a≤k∧k<b then 1 else col k)≠0:=hk
   rw[if_neg hk']at hk;exact h5 k hk
 ·obtain⟨A,n,c,xs,e,k1,k2,k3,k4⟩:=h6
  exact⟨A,n,c,xs,e,k1,k2,fun g hg=>hz g 4 (by decide) (k3 g hg),k4.mono fun k _ e=>hz k 5 (by decide) e⟩
 ·obtain⟨A,n,c,e,k1,k2⟩:=h7
  exact⟨A,n,c,e,k1,fun g hg=>hz g 6 (by decide) (k2 g hg)⟩
theorem Dk.chg {w:World}{col:Nat→Nat}{p:Nat}{v:SV}{s:PS}(h:Dk w col p v s)(c:Cm):
 Bt p w col { s with now:=some (c,[]) } ((w.alloc (.cells (Mw c++#[nl]) 166)).setCell ⟨p,47,none⟩ (.pointer (some ⟨w.heap.size,0,none⟩))):=by
 have hx:=Am.alloc w (.cells (Mw c++#[nl]) 166);have hb:=Ap.new w 166 (Mw c++#[nl]);obtain⟨hm0,ht0⟩:=h.grow hx 2;have hq:Go.Proofs.YtkaefdmhlmlhbaaGreat.grow col w.heap.size (w.alloc (.cells (Mw c++#[nl]) 166)).heap.size 2 w.heap.size=2:=J4 (Nat.le_refl _) hb.lt;have hne:p≠w.heap.size:=fun e=>by have:=h.ses.blk.lt;omega
 generalize Go.Proofs.YtkaefdmhlmlhbaaGreat.grow col w.heap.size (w.alloc (.cells (Mw c++#[nl]) 166)).heap.size 2=col1 at*;generalize w.alloc (.cells (Mw c++#[nl]) 166)=W at*;have h7:=hm0.ses.own;have cc:=(Dj.start (Am.refl W) hm0.ses.blk).set 47 (.pointer (some ⟨w.heap.size,0,none⟩));have hm:∀c,c≠7→∀k,k<W.heap.size→k=p→col1 k≠c:=fun c hc k _ e=>by rw[e,h7];exact fun e=>hc e.symm
 exact⟨col1,{ v with now:=some ⟨w.heap.size,0,none⟩ },⟨⟨cc.to (by kernel_rfl),h7,(hm0.old cc.alt).imp fun _ h=>⟨h.1,h.2,h.3,h.4,h.5,h.6,h.7,h.8⟩,
  ⟨w.heap.size,nl,rfl,hq,cc.alt.blk hb (fun e=>hne e.symm),Bi.nil _ _,fun g hg=>by cases hg⟩,fun k hk=>Nat.lt_of_lt_of_le (hm0.ses.dom k hk) cc.alt.size⟩,
  hm0.told.turn cc.alt (fun k h1 h2=>⟨hm 4 (by decide) k h1 h2,hm 5 (by decide) k h1 h2⟩) fun _ _=>rfl,hm0.vis.turn cc.alt (hm 6 (by decide)) fun _ _=>rfl⟩,ht0.trans ⟨cc.alt.mono fun k _ e=>by rw[e,h7];decide,fun _ _ h=>h,fun _ _ h=>h⟩⟩
noncomputable def G4 (s:PS)(c:Cm):PS:=if Yz c.op c.verb then { Q7 s with now:=some (c,[]) }else s
def Gi (s:PS)(d:Dn):PS:={ s with tx:=d.tx,at_:=d.at_,mode:=d.md,rl:=d.rl,fk:=d.fk,fa:=d.fa }
def Pe (s:PS):PS:=if s.mode=0 then { s with last:=s.now.or s.last,now:=none }else s
noncomputable def Mg (s:PS)(c:Cm)(d:Dn):PS:=Pe (Gi (G4 s c) d)
def DoV (o:Option Dn)(b:Nat)(vs:Array Value)(er:Int)(w:World):Prop:=
 vs.size=33∧vs.all (·.oneCell')=true∧((er=0∧∃d B q k r e,o=some d∧vs=J9z B q k r e d∧Pd w b B q k r d)∨(er≠0∧o=none))
theorem DoR.v {o:Option Dn}{b b':Nat}{vs:Array Value}{er:Int}{w:World}(h:DoR o b vs er w)(hb:b'≤b):DoV o b' vs er w:=by
 rcases h with⟨h0,d,ed,h1,h2⟩|⟨h0,h1,h2⟩
 ·obtain⟨B,q,k,r,e,e1,e2,e3⟩:=Q5v h2
  exact⟨h2.size,e3,.inl ⟨h0,d,B,q,k,r,e,h1,e1,e2.lower hb⟩⟩
 ·exact⟨by rw[h2];rfl,by rw[h2];exact Qu,.inr ⟨h0,h1⟩⟩
theorem DoV.ext {o:Option Dn}{b:Nat}{vs:Array Value}{er:Int}{w w':World}(h:DoV o b vs er w)(he:Am w w'):DoV o b vs er w':=
 ⟨h.1,h.2.1,h.2.2.imp (fun⟨h0,d,B,q,k,r,e,h1,h2,h3⟩=>⟨h0,d,B,q,k,r,e,h1,h2,h3.ext he⟩) id⟩
theorem DoV.row {o:Option Dn}{b g t:Nat}{cs vs:Array Value}{er:Int}{w:World}(h:DoV o b vs er w)(hb:Ap w g t cs)(ht:t≠3)(us:Array Value):DoV o b vs er (w.setRow g us):=
 ⟨h.1,h.2.1,h.2.2.imp (fun⟨h0,d,B,q,k,r,e,h1,h2,h3⟩=>⟨h0,d,B,q,k,r,e,h1,h2,h3.row hb ht us⟩) id⟩
theorem J2n {cs vs:Array Value}(h:vs.size=cs.size):M0 cs 0 vs=vs:=by
 refine Array.ext_getElem? fun i=>?_
 rw[Cx (by omega),if_neg (Nat.not_lt_zero i)]
 split
 ·rfl
 ·rw[Ri (by omega),Ri (by omega)]
theorem P6 (r:Nat→Value)(i:Nat)(hi:i<27):(Ln r)[i]? = some (r i):=by
 exact I4
theorem J2q {s:PS}(h:s.now=none):Pe s=s:=by
 unfold Pe;split
 ·cases s;simp only at h;subst h;rfl
 ·rfl
theorem Q6g {w:World}{b:Nat}{r:Nat→Value}{rl:Nat→List Int}(h:∀j,j<27→Bi w b (r j) (rl j)):(Ln r).all (·.oneCell')=true:=
 Kl.one (w:=w) (rs:=rl) ⟨rfl,fun i hi=>⟨r i,P6 r i hi,(h i hi).sl⟩⟩
theorem U4 {w:World}{g t g':Nat}{cs:Array Value}(h:Ap w g t cs)(hne:g'≠g)(i:Nat)(a:Value):Ap (w.setCell ⟨g',i,none⟩ a) g t cs:=Bk h hne i a
theorem Q9c {w x:World}{t:TypeId}{cs:Array Value}(_:Am w (x.alloc (.cells cs t))):∃g,g=x.heap.size∧Ap (x.alloc (.cells cs t)) g t cs:=⟨_,rfl,Ap.new x t cs⟩
theorem Z1p {w W2 W4:World}{col col4:Nat→Nat}{p g5:Nat}{v v4:SV}{s s4:PS}{B:Option Addr}{q k:Nat}{r:Nat→Value}{e:Value}{d:Dn}(h:Dk w col p v s)(he:Am w W2)(hb:Ap W2 g5 77 (J9z B q k r e d))(hg:w.heap.size≤g5)
 (hd:Pd W2 w.heap.size B q k r d) (hm:Dk W4 col4 p v4 s4) (ht:Lb W2 col W4 col4):
 Ap W4 g5 77 (J9z B q k r e d)∧p≠g5∧∃col5,Dk W4 col5 p v4 s4∧Lb w col W4 col5∧Hh (fun k=>col5 k=1) W4 fun x=>Pd x 0 B q k r d:=by
 have hz:∀k,w.heap.size≤k→col k=0:=fun k hk=>h.ses.lt hk
 have hz4:∀k,w.heap.size≤k→k<W2.heap.size→col4 k=0:=fun k h1 h2=>Decidable.byContradiction fun hn=>ht.2 k h2 hn (hz k h1)
 have hps:=h.ses.blk.lt;refine⟨ht.1.blk hb fun hn=>hn.1 (hz _ hg),by omega,_,hm.paint (a:=w.heap.size) (b:=W2.heap.size) hz4 ht.1.size,⟨?_,fun k hk hn=>?_,fun k hk e=>(if_neg (by omega)).trans (ht.3 k (Bn hk he.hsize) e)⟩,fun M w' ha hk=>?_⟩
 ·exact(he.alt _).trans ht.1 fun _ _ h=>h
 ·have hn:(if w.heap.size≤k∧k<W2.heap.size then 1 else col4 k)≠0:=hn
  rw[if_neg (by omega)]at hn
  exact ht.2 k (Bn hk he.hsize) hn
 ·refine(hd.win fun k h1 h2=>?_).lower (Au _)
  have h4:=Bn h2 ht.1.size;exact(ha.block k h4 (hk k h4 (if_pos ⟨h1,h2⟩))).trans (ht.1.block k h2 fun hn=>hn.1 (hz k h1))
theorem J1m {w:World}{col:Nat→Nat}{p:Nat}{v:SV}{s:PS}{c:Cm}(h:Dk w col p v s)(wl:∀x∈s.tx,(Lit.int .i64 x).wf=true)(hl:s.tx.length≤200)(hb:s.past.length≤30)(hq:s.told.length≤1000000000000)
 (hz:∀d,Mh s.tx s.rl s.at_ s.fk s.fa c=some d→d.tx.length≤4096):
 Calls Tryz.prog 91 #[.pointer (some ⟨p,0,none⟩),.agg (Mw c)] w fun e w'=>
  (Mh s.tx s.rl s.at_ s.fk s.fa c=none∧e=.returned (.bool false)∧Bt p w col (Ey s) w')∨(∃d,Mh s.tx s.rl s.at_ s.fk s.fa c=some d∧e=.returned (.bool true)∧Bt p w col (Mg s c d) w'):=by
 have hx:=Am.alloc w (.cells (Mw c) 62);have hc0:=Ap.new w 62 (Mw c);have H:=A6 h;have HBL:Hid (∀wq,Am w wq→_):=A6 fun wq he=>Kd (h.ext he) hq
 have HSV:Hid (∀wq,Am w wq→_):=A6 fun wq he=>J5b (h.ext he) hb
 have HLN:Hid (∀wq,Am w wq→Calls Tryz.prog 34 #[.pointer (some ⟨p,0,none⟩)] wq fun e w'=>∃u,e=.returned u∧(∃A n c,u=.agg #[.slice A n c,.int .i64 s.at_]∧Ay w' wq.heap.size A n c s.tx)∧Am wq w'):=
  A6 fun wq he=>Th (h.ext he) (by omega)
 have hrg:=h.ses.dat.here.regs.regs;have HDO:Hid (∀wq A n k,Am w wq→Ay wq 0 A n k s.tx→Calls Tryz.prog 28 #[.agg #[.slice A n k,.int .i64 s.at_],.agg (Ln v.r),.agg #[.int .i64 s.fk,.int .i64 s.fa],.agg (Mw c)] wq fun e w'=>
  ∃u,e=.returned u∧(∃vs er,u=.tuple #[.agg vs,.int .i64 er]∧DoV (Mh s.tx s.rl s.at_ s.fk s.fa c) w.heap.size vs er w')∧Am wq w'):=
  A6 fun wq A n k he ho=>(Z3n ho wl (hrg.ext he)).mono fun e w' ⟨u,h1,⟨vs,er,h2,h3⟩,h4⟩=>⟨u,h1,⟨vs,er,h2,h3.v he.hsize⟩,h4⟩
 have HP:=A6 (fun wq (he:Am w wq)=>h.ses.blk.ext he)
 have HZ:=A6 hz;have hlt:=h.ses.blk.lt;clear h wl hl hb hq hz hrg;go_enter Tryz.func91,Tryz.ntmps91
 go_upto_region 1 with fail
 generalize w.alloc (.cells (Mw c) 62)=Wa at*;have hcb:Ap Wa.drew w.heap.size 62 (Mw c):=hc0;have hxd:=hx.to_drew;refine wp_region_held_drew (S:=fun w'=>Am w w'∧Ap w' w.heap.size 62 (Mw c)) (by kernel_rfl) ⟨hxd,hcb⟩ (fun hS=>?_)
 clear hc0 hx hcb hxd;refine Bb (i:=0) (v:=(.pointer (some ⟨p,0,none⟩))) rfl hS ?_
 refine Bb (i:=2) (v:=(.pointer (some ⟨p,0,none⟩))) rfl hS ?_
 refine Bb (i:=3) (v:=(.pointer (some ⟨p,0,none⟩))) rfl hS ?_
 refine Bb (i:=4) (v:=(.pointer (some ⟨p,3,none⟩))) rfl hS ?_
 refine Fj (i:=5) (v:=(.agg (Ln v.r))) rfl (fun w' hSw=>by exact Dg 38 (.tmp 12) rfl p 3 27 rfl (HP.out _ hSw.1) (by kernel_rfl) Tryz.underlying38 rfl (by kernel_rfl)) hS ?_
 refine Bb (i:=6) (v:=(.pointer (some ⟨p,0,none⟩))) rfl hS ?_
 refine Bb (i:=7) (v:=(.pointer (some ⟨p,0,none⟩))) rfl hS ?_
 refine Bb (i:=8) (v:=(.pointer (some ⟨p,30,none⟩))) rfl hS ?_
 refine Fj (i:=9) (v:=(.agg #[.int .i64 s.fk,.int .i64 s.fa])) rfl (fun w' hSw=>by exact Dg 36 (.tmp 16) rfl p 30 2 rfl (HP.out _ hSw.1) (by kernel_rfl) Tryz.underlying36 rfl (by kernel_rfl)) hS ?_
 refine Fj (i:=10) (v:=(.agg (Mw c))) rfl (fun w' hSw=>by exact Dg 62 (.tmp 3) rfl w.heap.size 0 5 rfl hSw.2 (by kernel_rfl) Tryz.underlying62 rfl (by kernel_rfl)) hS ?_
 generalize Wa.drew=cur at*
 iterate 3
  all_goals (first|refine wpAnyH_ready (rs:=[1,15]) (by decide +kernel) (by simp) (Ai rfl (fun K hK=>?_) (Ai rfl (fun K hK=>?_) Al))|refine wpAnyH_ready (rs:=[11,15]) (by decide +kernel) (by simp) (Ai rfl (fun K hK=>?_) (Ai rfl (fun K hK=>?_) Al))|refine wpAnyH_ready (rs:=[1]) (by decide +kernel) (by simp) (Ai rfl (fun K hK=>?_) Al)|refine wpAnyH_ready (rs:=[11]) (by decide +kernel) (by simp) (Ai rfl (fun K hK=>?_) Al)|refine wpAnyH_ready (rs:=[15]) (by decide +kernel) (by simp) (Ai rfl (fun K hK=>?_) Al))
  all_goals (first
   |(
    refine Cb rfl 28 #[.agg #[.slice A n k,.int .i64 s.at_],.agg (Ln v.r),.agg #[.int .i64 s.fk,.int .i64 s.fa],.agg (Mw c)] rfl (by kernel_rfl) (fun u w'=>∃vs er,u=.tuple #[.agg vs,.int .i64 er]∧DoV (Mh s.tx s.rl s.at_ s.fk s.fa c) w.heap.size vs er w') (HDO.out _ A n k hS.1 hoL) ?_
    rintro u w3 ⟨vs,er,rfl,hR⟩ hE;refine hK.out _ _ ⟨hS.1.trans hE,hS.2.ext hE⟩ (fun hS'=>?_)
    clear hK K hoL
    try replace hb5:=Ap.ext hb5 hE
    replace hS:=hS';clear hS' hE
    try simp only[Ac,Aa,Ab,An,A7,Ad,Ae]
    refine Bb (i:=12) (v:=.tuple #[.agg vs,.int .i64 er]) rfl hS ?_
    refine Bb (i:=13) (v:=.agg vs) rfl hS ?_
    refine wpAnyH_take (i:=14) (v:=.int .i64 er) rfl (by kernel_rfl) (by kernel_rfl) (by kernel_rfl) (fun _ _ _ h=>h) (Or.inl ⟨by rfl,by(intro w' hSw;go_simp)⟩) hS ?_
    try simp only[Ac,Aa,Ab,An,A7,Ad,Ae])
   |(
    refine Cb rfl 34 #[.pointer (some ⟨p,0,none⟩)] rfl (by kernel_rfl) (fun u w'=>∃A n k,u=.agg #[.slice A n k,.int .i64 s.at_]∧Ay w' (World.heap _).size A n k s.tx) (HLN.out _ hS.1) ?_
    rintro u w2 ⟨A,n,k,rfl,hoL⟩ hE;refine hK.out _ _ ⟨hS.1.trans hE,hS.2.ext hE⟩ (fun hS'=>?_)
    clear hK K;replace hoL:Ay _ 0 A n k s.tx:=B8.lower hoL (Au _)
    try replace hb5:=Ap.ext hb5 hE
    replace hS:=hS';clear hS' hE
    try simp only[Ac,Aa,Ab,An,A7,Ad,Ae])
   |(
    go_simp
    refine hK.out _ _ ⟨hS.1.to_alloc (.cells Fy 77),hS.2.ext (Am.alloc _ _)⟩ (fun hS'=>?_)
    clear hK K;have hE:=Lf hS'.1
    try replace hoL:=Ay.ext hoL hE
    try replace hR:=hR.ext hE
    obtain⟨g5,hg5,hb5⟩:=Q9c hS'.1;have hz5:=hS.1.hsize;rw[←hg5]at hz5 ⊢;clear hg5;replace hS:=hS';clear hS' hE;generalize World.alloc _ _=nx at*
    try simp only[Ac,Aa,Ab,An,A7,Ad,Ae]))
 all_goals
  have hsz:=hR.1;have hon:=hR.2.1;refine wpAnyH_ready (rs:=[16]) (by decide +kernel) (by simp) (Ai rfl (fun K hK=>?_) Al)
  refine By rfl 77 (.tmp 5) (.tmp 20) rfl _ 0 vs rfl rfl 77 Fy hb5 (by rw[hsz];kernel_rfl) (by rw[hsz];decide) hon ?_
  rw[J2n (show vs.size=Fy.size from hsz)]
  have hR':=hR.row hb5 (by decide) vs
  have hb5':=hb5.setRow vs;have hn5:(_:Nat)≠w.heap.size:=Fe hb5 hS.2 (by decide)
  have hS':_∧_:=⟨hS.1.setRow hz5 vs,hS.2.setRow_other vs (fun e=>hn5 e.symm)⟩
  refine hK.out _ _ hS' (fun hS=>?_)
  clear hK K hS' hb5 hR;generalize World.setRow _ _ _=W1 at*
  try simp only[Ac,Aa,Ab,An,A7,Ad,Ae]
  refine wpAnyH_ready (rs:=[17]) (by decide +kernel) (by simp) (Ai rfl (fun K hK=>?_) Al)
  go_simp
  refine hK.out _ _ hS (fun _=>?_)
  clear hK K;refine wpAnyH_done (by kernel_rfl) ?_ _
  rcases hR'.2.2 with⟨rfl,d,B,q,k,r,e,hd,rfl,hDn⟩|⟨her,hd⟩
  ·have hone:(Ln r).all (·.oneCell')=true:=by
    have h9:=hDn.regs;exact Q6g h9
   have HW:=A6 hS.1;have HC:=A6 hS.2;have HB5:=A6 hb5';have HD:=A6 hd;have HDn:=A6 hDn;have HZ5:=A6 hz5;have e0:W1.cell? ⟨w.heap.size,0,none⟩=some (.int .i64 c.count):=hS.2.cell 0;have e1:W1.cell? ⟨w.heap.size,1,none⟩=some (.int .i64 c.reg):=hS.2.cell 1;have e2:W1.cell? ⟨w.heap.size,2,none⟩=some (.int .i64 c.op):=hS.2.cell 2;have e3:W1.cell? ⟨w.heap.size,3,none⟩=some (.int .i64 c.verb):=hS.2.cell 3;have e4:W1.cell? ⟨w.heap.size,4,none⟩=some (.int .i64 c.arg):=hS.2.cell 4;clear hb5' hR' hd hS hDn hz5 hsz hon hn5;go_wp2_with fail
   refine(J4d W1 c.count c.reg c.op c.verb c.arg).mono ?_
   rintro e' W2 ⟨rfl,he2⟩;have HE2:=A6 he2;clear e0 e1 e2 e3 e4 he2;by_cases hcb:Yz c.op c.verb=true
   ·have N0:=trivial;exact K0
   ·have N1:=trivial;exact K0
  ·have hek:(er !=0)=true:=by simpa using her
   have HBl:=A6 (HBL.out _ hS.1);have HT:=A6 (show Lb w col W1 col from⟨hS.1.alt _,fun _ _ h=>h,fun _ _ h=>h⟩)
   have HD:=A6 hd;clear hb5' hR' her hd hS;go_wp2_with fail
   refine HBl.out.mono ?_
   rintro e w6 ⟨rfl,hm⟩;have HMm:=A6 (Bt.trans HT.out hm);clear hm;go_wp2_with fail
   go_ret
   exact .inl ⟨HD.out,rfl,HMm.out⟩
structure TOk (K T:Nat)(s:PS):Prop where
 line:LOk s
 mode:s.mode=1∨s.mode=2
 keys:KOk K s
 told:s.told.length≤T
theorem TOk.typed {K T:Nat}{s:PS}{key:Int}(h:TOk K T s)(hk:key≠27):TOk (K+1) (T+1) (Dm s key):=by
 obtain⟨⟨h1,h2,h3⟩,h4,h5,h6⟩:=h;unfold Dm;rw[if_neg hk];cases he:Ht s.mode s.tx s.at_.toNat key with
 |none=>exact⟨⟨h1,h2,h3⟩,h4,fun x hx=>Nat.le_succ_of_le (h5 x hx),by show(s.told++[_]).length≤_;simp;omega⟩
 |some r=>
  obtain⟨m,b⟩:=r;have hb:=Ue he h1 (by omega)
  refine⟨⟨hb.1,Int.natCast_nonneg b,by show(b:Int)≤(m.length:Int);omega⟩,h4,fun x hx=>?_,Nat.le_succ_of_le h6⟩
  have hx:s.now.map (fun x=>(x.1,x.2++[key]))=some x:=hx
  cases hn:s.now with
  |none=>rw[hn]at hx;cases hx
  |some y=>
   rw[hn]at hx;injection hx with hx;rw[←hx];have:=h5 y hn;simp;omega
def keysF (s:PS)(ks:List Int):PS:=ks.foldl Dm s
theorem J8f (s:PS)(ks:List Int)(k:Int):keysF s (ks++[k])=Dm (keysF s ks) k:=by
 unfold keysF;rw[List.foldl_append]
 rfl
theorem TOk.keysF {K T:Nat}{s:PS}(h:TOk K T s):∀{ks:List Int},(∀k∈ks,k≠27)→TOk (K+ks.length) (T+ks.length) (keysF s ks):=by
 intro ks
 induction ks generalizing s K T with
 |nil=>exact fun _=>h
 |cons k ks ih=>
  intro hk;have h1:=ih (h.typed (hk k List.mem_cons_self)) (fun x hx=>hk x (List.mem_cons_of_mem _ hx))
  have e:Go.Proofs.YtkaefdmhlmlhbaaGreat.keysF s (k::ks)=Go.Proofs.YtkaefdmhlmlhbaaGreat.keysF (Dm s k) ks:=rfl;exact I63
def Cd (c:Cm)(n:Int):Cm:=if 0<n then { c with count:=n }else c
noncomputable def Ez (s:PS)(n:Int):PS:=
 match s.last with
 |none=>Ey s
 |some (c,ks)=>
  match Mh s.tx s.rl s.at_ s.fk s.fa (Cd c n)with
  |none=>Ey s
  |some d=>if(Mg s (Cd c n) d).mode=0 then Mg s (Cd c n) d else Dm (keysF (Mg s (Cd c n) d) ks) 27
theorem Hh.chg_own {F:Nat→Prop}{w:World}{q m k:Nat}{A:Option Addr}{c:Cm}{ks:List Int}(h:Hh F w fun x=>Vx x (some ⟨q,0,none⟩) (some (c,ks)))(hb:Ap w q 166 (Mw c++#[.slice A m k]))(ho:Ay w 0 A m k ks)(hm:0<m):
 ∀g,(Ak A m k).ownBlock=some g→F g:=by
 intro g hg;refine Classical.byContradiction fun hn=>?_
 have ho':=ho;obtain⟨_,⟨_,h0⟩|⟨g',cap,cur,hv,_,hgb,_⟩⟩:=ho'
 ·omega
 ·rw[hv]at hg
  have hg:some g'=some g:=hg;injection hg with hg;subst hg;have hA:=Gn.row (t:=3) hgb (by decide) #[]
  obtain⟨q',y',e',hb',hy'⟩:=h _ _ hA (fun k _ hF e=>hn (e▸hF))
  injection e' with e';subst e';have hne:q≠g':=Fe hb (show Ap w g' 3 _ from hgb) (by decide)
  have hl:=congrArg Array.toList ((hb.setRow_other #[] hne).inj hb').2;have hy:Ak A m k=y':=by simpa[Mw]using hl
  obtain⟨A2,n2,c2,e2,ho2,_⟩:=hy';rw[←hy,hv]at e2;rw[hv]at hy;obtain⟨h1,⟨h3,h0⟩|⟨g2,cap2,cur2,hv2,_,hgb2,_,_,_,ht⟩⟩:=ho2
  ·rw[←e2]at h3
   cases h3
  ·rw[←e2]at hv2
   injection hv2 with hA2 hn2 hc2;injection hA2 with hA2;injection hA2 with hA2;subst hA2;have hz:=((show Ap w g' 3 _ from hgb).setRow #[]).inj (show Ap _ g' 3 _ from hgb2)
   rw[←hz.2]at ht;have hks:=ho.ints.len;simp at ht;have:ks=[]:=by simpa using ht.symm
   rw[this]at hks;simp at hks;omega
theorem J7f {w:World}{col:Nat→Nat}{p K:Nat}{v:SV}{s:PS}{n:Int}(h:Dk w col p v s)(wl:∀x∈s.tx,(Lit.int .i64 x).wf=true)(hl:s.tx.length≤200)(hb:s.past.length≤30)(hq:s.told.length≤500000000000)
 (hz:∀c d,Mh s.tx s.rl s.at_ s.fk s.fa c=some d→d.tx.length≤4096)
 (hD:∀c ks d,s.last=some (c,ks)→Mh s.tx s.rl s.at_ s.fk s.fa (Cd c n)=some d→(Mg s (Cd c n) d).mode≠0→TOk K 500000000000 (Mg s (Cd c n) d)) (hks:∀c ks,s.last=some (c,ks)→(∀k∈ks,k≠27)∧ks.length≤2000000) (hK:K≤2000000):
 Calls Tryz.prog 94 #[.pointer (some ⟨p,0,none⟩),.int .i64 n] w fun e w'=>e=.returned (.tuple #[])∧Bt p w col (Ez s n) w':=by
 have hd:=h.ses.dat.here;have d46:w.cell? ⟨p,46,none⟩=some (.pointer v.last):=h.ses.blk.cell 46;have hc:=hd.last;rcases hv:v.last with _|a<;>rcases hs:s.last with _|⟨c,ks⟩<;>rw[hv,hs]at hc
 ·rw[hv]at d46
  have HB:=A6 (Kd h (by omega))
  have HF:Hid (Ez s n=Ey s):=A6 (by unfold Ez;rw[hs])
  clear h wl hl hb hq hz hD hks hd hc;go_enter Tryz.func94,Tryz.ntmps94
  go_wp2_with fail
  refine HB.out.mono ?_
  rintro e w1 ⟨rfl,h1⟩;have H1:=A6 h1;clear h1;exact I86
 ·exact hc.elim
 ·exact hc.elim
 ·obtain⟨q,y,rfl,hqb,hy⟩:=hc
  obtain⟨A,m,k,rfl,hyo,hyn⟩:=hy;rw[hv]at d46;have e0:w.cell? ⟨q,0,none⟩=some (.int .i64 c.count):=hqb.cell 0;have e1:w.cell? ⟨q,1,none⟩=some (.int .i64 c.reg):=hqb.cell 1;have e2:w.cell? ⟨q,2,none⟩=some (.int .i64 c.op):=hqb.cell 2;have e3:w.cell? ⟨q,3,none⟩=some (.int .i64 c.verb):=hqb.cell 3;have e4:w.cell? ⟨q,4,none⟩=some (.int .i64 c.arg):=hqb.cell 4;have e5:w.cell? ⟨q,5,none⟩=some (.slice A m k):=hqb.cell 5;have hlq:=hqb.lt;have hlp:=h.ses.blk.lt;have B4:=Ap.new w 166 #[.int .i64 c.count,.int .i64 c.reg,.int .i64 c.op,.int .i64 c.verb,.int .i64 c.arg,.slice A m k];have X4:=Am.alloc w (.cells #[.int .i64 c.count,.int .i64 c.reg,.int .i64 c.op,.int .i64 c.verb,.int .i64 c.arg,.slice A m k] 166);have hdc:Hh (fun k=>col k=1) w fun x=>Vx x (some ⟨q,0,none⟩) (some (c,ks)):=h.ses.dat.imp fun x hx=>by have:=hx.last;rw[hv,hs]at this;exact this
  have hdi:Hh (fun k=>col k=1) w fun x=>Bj x A m k ks:=by
   rcases Nat.eq_zero_or_pos m with rfl|hm
   ·have hk0:ks=[]:=List.eq_nil_of_length_eq_zero hyo.ints.len
    subst hk0;exact fun _ _ _ _=>⟨rfl,Nat.zero_le _,hyo.ints.nmax,fun hh=>absurd hh (Nat.lt_irrefl 0)⟩
   ·exact(Hh.own hyo (hdc.chg_own hqb hyo hm)).imp fun x hx=>Ay.ints hx
  have HDI:=A6 hdi;clear hdc hdi;have H:=A6 h;have HS:=A6 hs;have HWL:=A6 wl;have HL:=A6 hl;have HBB:=A6 hb;have HQ:=A6 hq;have HZ:=A6 hz;have HD:=A6 hD;have HKS:=A6 (hks c ks hs);have HYO:=A6 hyo;clear h wl hl hb hq hz hD hks hd hs hqb hyo;go_enter Tryz.func94,Tryz.ntmps94
  go_upto_region 3 with fail
  generalize w.alloc (.cells #[.int .i64 c.count,.int .i64 c.reg,.int .i64 c.op,.int .i64 c.verb,.int .i64 c.arg,.slice A m k] 166)=W4 at*;clear e0 e1 e2 e3 e4 e5 d46;have e0:W4.cell? ⟨w.heap.size,0,none⟩=some (.int .i64 c.count):=B4.cell 0;have e1:W4.cell? ⟨w.heap.size,1,none⟩=some (.int .i64 c.reg):=B4.cell 1;have e2:W4.cell? ⟨w.heap.size,2,none⟩=some (.int .i64 c.op):=B4.cell 2;have e3:W4.cell? ⟨w.heap.size,3,none⟩=some (.int .i64 c.verb):=B4.cell 3;have e4:W4.cell? ⟨w.heap.size,4,none⟩=some (.int .i64 c.arg):=B4.cell 4;have hz4:=X4.hsize;have B5:=Ap.new W4 62 (Mw c);have X5:=Am.alloc W4 (.cells (Mw c) 62);unfold Mw at B5 X5;have B4':=B4.ext X5;have X5':=X4.trans X5;clear X4 X5 B4;go_upto_region 4 with fail
  generalize W4.alloc (.cells #[.int .i64 c.count,.int .i64 c.reg,.int .i64 c.op,.int .i64 c.verb,.int .i64 c.arg] 62)=W5 at*;clear e0 e1 e2 e3 e4;have fin:∀W6,Am w W6→Ap W6 W4.heap.size 62 (Mw (Cd c n))→Ap W6 w.heap.size 166 #[.int .i64 c.count,.int .i64 c.reg,.int .i64 c.op,.int .i64 c.verb,.int .i64 c.arg,.slice A m k]→True:=fun _ _ _ _=>trivial
  clear fin;by_cases hn0:0<n
  ·have N0:=trivial;exact K4
  ·have N1:=trivial;exact K4
open Classical in
/-- moved, behind what the history answered. -/
theorem Lz {w0 w:World}{col:Nat→Nat}{p:Nat}{v:SV}{s:PS}{ok:Prop}{hi':Hi}{line:List Int}{e:Ending}(h:Dk w0 col p v s)(he:Am w0 w)(hq:s.told.length≤1000000000000)(hlen:ok→line.length≤4096)
 (hg:(ok∧∃u L m z,e=.returned (.tuple #[u,.slice L m z,.int .i64 0])∧Db w w0.heap.size u hi'∧Ay w w0.heap.size L m z line)∨(¬ok∧∃x:Int,e=.returned (.tuple #[.agg Do,.slice none 0 0,.int .i64 x])∧x≠0)):
 ∃U L m z x,e=.returned (.tuple #[U,.slice L m z,.int .i64 x])∧
  Calls Tryz.prog 80 #[.pointer (some ⟨p,0,none⟩),U,.slice L m z,.int .i64 x] w fun e' w'=>e'=.returned (.tuple #[])∧Bt p w0 col (if ok then Nf s hi' line else Ey s) w':=by
 rcases hg with⟨hok,u,L,m,z,rfl,hO,hI⟩|⟨hno,x,rfl,hx⟩
 ·obtain⟨A,n,c,S,sn,sc,P,pn,pc,rfl⟩:=hO.form
  refine⟨_,L,m,z,0,rfl,?_⟩
  rw[if_pos hok];exact Q2t h he hO hI (by rw[←hI.ints.len];exact hlen hok)
 ·refine⟨_,none,0,0,x,rfl,?_⟩
  rw[if_neg hno];refine(Q2u (h.ext he) hx hq).mono fun e' w' ⟨h1,h2⟩=>⟨h1,?_⟩
  exact Bt.trans ⟨he.alt _,fun _ _ h=>h,fun _ _ h=>h⟩ h2
noncomputable def doS (s:PS)(c:Cm):PS:=match Mh s.tx s.rl s.at_ s.fk s.fa c with|none=>Ey s|some d=>Mg s c d
open Classical in
noncomputable def upS (s:PS)(k:Int):PS:=if Hc s.hi s.tx k∧(Fk k:Int)≤s.hi.at_ then Nf s (toH s.hi s.tx (s.hi.at_.toNat-Fk k)) (toL s.hi s.tx (s.hi.at_.toNat-Fk k))else Ey s
open Classical in
noncomputable def Mm (s:PS)(k:Int):PS:=if Hc s.hi s.tx k∧(Fk k:Int)+s.hi.at_≤(s.hi.lines.length:Int)then Nf s (toH s.hi s.tx (s.hi.at_.toNat+Fk k)) (toL s.hi s.tx (s.hi.at_.toNat+Fk k))else Ey s
open Classical in
noncomputable def Mj (s:PS)(k:Int):PS:=if Hc s.hi s.tx k∧k≤(s.hi.lines.length:Int)∧0<s.hi.lines.length then Nf s (toH s.hi s.tx (Q8 k)) (toL s.hi s.tx (Q8 k))else Ey s
open Classical in
noncomputable def Fn (s:PS)(pat:List Int)(older keep:Bool):PS:=
 if h:∃k,Vt s.hi s.tx pat older k∧k<s.hi.lines.length then Nf s (findH s.hi s.tx pat keep h.choose) (toL s.hi s.tx h.choose)else Ey s
def J6g (s:PS)(older:Bool):PS:={ s with mode:=3,ask:=[],older:=older }
noncomputable def F3 (s:PS)(c:Cm):PS:=
 if c.op≠0 then doS s c
 else if c.verb=117 then Ga s
 else if c.verb=85 then J1 s
 else if c.verb=46 then Ez s c.count
 else if c.verb=107 then upS s c.count
 else if c.verb=106 then Mm s c.count
 else if c.verb=71 then Mj s c.count
 else if c.verb=110∨c.verb=78 then Fn s [] (s.hi.older !=(c.verb==78)) s.hi.older
 else if c.verb=47∨c.verb=63 then J6g s (c.verb==47)
 else doS s c
theorem Jk {P:Program}{ops:Array Oper}{o:Oper}{a:Act}{w:World}{K:Act→World→Prop}{Q:Exit→Act→World→Prop}{E:Prop}{ars:Array Operand}{tys:Array TypeId}(hgd:o.guard=none)
 (f:FuncId) (args:Array Value) (ho:o.op=.call { callee:=.value (.func f),args:=ars,argTypes:=tys }) (hrun:(execOp a.eval o).run P w=.ok (.enter f args) w) (R:Value→World→Prop)
 (hc:Calls P f args w fun e w'=>∃v,e=.returned v∧R v w') (h:∀v w',R v w'→K (a.put o.dst v) w'):if Bp o (yielded ops a.tmps)=true then Oper.wp P o a w K Q else E:=by
 have hw:Bp o (yielded ops a.tmps)=true:=by simp[Bp,hgd]
 rw[if_pos hw];exact I16
theorem Z1v {w:World}{col:Nat→Nat}{p:Nat}{v:SV}{s:PS}{k1 k2 k5:Int}(h:Dk w col p v s)(hl:s.tx.length≤200)(hq:s.told.length≤1000000000000)
 (hlen:(toL s.hi s.tx (s.hi.at_.toNat-Fk k1)).length≤4096):
 Calls Tryz.prog 66 #[.pointer (some ⟨p,0,none⟩),.agg #[.int .i64 k1,.int .i64 k2,.int .i64 0,.int .i64 107,.int .i64 k5]] w fun e w'=>e=.returned (.tuple #[])∧Bt p w col (upS s k1) w':=by
 have N0:=trivial;exact K13
theorem Q4p {w:World}{col:Nat→Nat}{p:Nat}{v:SV}{s:PS}{k1 k2 k5:Int}(h:Dk w col p v s)(hl:s.tx.length≤200)(hq:s.told.length≤1000000000000)
 (hlen:(toL s.hi s.tx (s.hi.at_.toNat+Fk k1)).length≤4096):
 Calls Tryz.prog 66 #[.pointer (some ⟨p,0,none⟩),.agg #[.int .i64 k1,.int .i64 k2,.int .i64 0,.int .i64 106,.int .i64 k5]] w fun e w'=>e=.returned (.tuple #[])∧Bt p w col (Mm s k1) w':=by
 have N1:=trivial;exact K13
theorem Q4o {w:World}{col:Nat→Nat}{p:Nat}{v:SV}{s:PS}{k1 k2 k5:Int}(h:Dk w col p v s)(hl:s.tx.length≤200)(hq:s.told.length≤1000000000000)
 (hlen:(toL s.hi s.tx (Q8 k1)).length≤4096):
 Calls Tryz.prog 66 #[.pointer (some ⟨p,0,none⟩),.agg #[.int .i64 k1,.int .i64 k2,.int .i64 0,.int .i64 71,.int .i64 k5]] w fun e w'=>e=.returned (.tuple #[])∧Bt p w col (Mj s k1) w':=by
 have N2:=trivial;exact K13
open Classical in
/-- moved, behind what was looked for in the history. -/
theorem Q0 {w0 w:World}{col:Nat→Nat}{p:Nat}{v:SV}{s:PS}{pat:List Int}{older keep:Bool}{e:Ending}(h:Dk w0 col p v s)(he:Am w0 w)(hq:s.told.length≤1000000000000)(hlen:∀k,k<s.hi.lines.length→(toL s.hi s.tx k).length≤4096)
 (hg:(∃k,Vt s.hi s.tx pat older k∧k<s.hi.lines.length∧∃u L m z,e=.returned (.tuple #[u,.slice L m z,.int .i64 0])∧Db w w0.heap.size u (findH s.hi s.tx pat keep k)∧Ay w w0.heap.size L m z (toL s.hi s.tx k))∨((∀k,¬Vt s.hi s.tx pat older k)∧∃x:Int,e=.returned (.tuple #[.agg Do,.slice none 0 0,.int .i64 x])∧x≠0)):
 ∃U L m z x,e=.returned (.tuple #[U,.slice L m z,.int .i64 x])∧
  Calls Tryz.prog 80 #[.pointer (some ⟨p,0,none⟩),U,.slice L m z,.int .i64 x] w fun e' w'=>e'=.returned (.tuple #[])∧Bt p w0 col (Fn s pat older keep) w':=by
 rcases hg with⟨k,hk,hkl,u,L,m,z,rfl,hO,hI⟩|⟨hno,x,rfl,hx⟩
 ·have hex:∃k,Vt s.hi s.tx pat older k∧k<s.hi.lines.length:=⟨k,hk,hkl⟩
  have hek:hex.choose=k:=by
   have h1:=hex.choose_spec.1.2.2.2;rw[hk.2.2.2]at h1;injection h1 with h1;exact h1.symm
  have hS:Fn s pat older keep=Nf s (findH s.hi s.tx pat keep k) (toL s.hi s.tx k):=by
   unfold Fn;rw[dif_pos hex,hek]
  rw[hS];obtain⟨U,L',m',z',x,e',hc⟩:=Lz (ok:=True) (hi':=findH s.hi s.tx pat keep k) (line:=toL s.hi s.tx k) h he hq (fun _=>hlen k hkl) (Or.inl ⟨trivial,u,L,m,z,rfl,hO,hI⟩)
  rw[if_pos trivial]at hc;exact⟨U,L',m',z',x,e',hc⟩
 ·have hS:Fn s pat older keep=Ey s:=by
   unfold Fn;rw[dif_neg fun⟨k,hk,_⟩=>hno k hk]
  rw[hS];obtain⟨U,L',m',z',x',e',hc⟩:=Lz (ok:=False) (hi':=s.hi) (line:=[]) h he hq nofun (Or.inr ⟨id,x,rfl,hx⟩);rw[if_neg id]at hc;exact⟨U,L',m',z',x',e',hc⟩
theorem Q4n {w:World}{col:Nat→Nat}{p:Nat}{v:SV}{s:PS}{k1 k2 k5:Int}(h:Dk w col p v s)(hl:s.tx.length≤200)(hq:s.told.length≤1000000000000)
 (hlen:∀k,k<s.hi.lines.length→(toL s.hi s.tx k).length≤4096):
 Calls Tryz.prog 66 #[.pointer (some ⟨p,0,none⟩),.agg #[.int .i64 k1,.int .i64 k2,.int .i64 0,.int .i64 110,.int .i64 k5]] w fun e w'=>e=.returned (.tuple #[])∧Bt p w col (Fn s [] (s.hi.older !=false) s.hi.older) w':=by
 have N3:=trivial;exact K13
theorem Q4m {w:World}{col:Nat→Nat}{p:Nat}{v:SV}{s:PS}{k1 k2 k5:Int}(h:Dk w col p v s)(hl:s.tx.length≤200)(hq:s.told.length≤1000000000000)
 (hlen:∀k,k<s.hi.lines.length→(toL s.hi s.tx k).length≤4096):
 Calls Tryz.prog 66 #[.pointer (some ⟨p,0,none⟩),.agg #[.int .i64 k1,.int .i64 k2,.int .i64 0,.int .i64 78,.int .i64 k5]] w fun e w'=>e=.returned (.tuple #[])∧Bt p w col (Fn s [] (s.hi.older !=true) s.hi.older) w':=by
 have N4:=trivial;exact K13
