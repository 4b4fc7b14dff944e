/-
  Part ZVjB.
-/
import Derived.Test.YtkaefdmhlmlhbaaGreatZViP
import Derived.Test.YtkaefdmhlmlhbaaGreatZKeyV1
set_option maxRecDepth 100000
set_option maxHeartbeats 16000000
set_option linter.unusedVariables false
set_option linter.unusedSimpArgs false
namespace Go.Proofs.YtkaefdmhlmlhbaaGreat
open Go.RowKit
open _root_.Go.Proofs.Tryz
open World renaming setCell→Bh
section
variable {col:Nat→Nat}{w:World}{v:SV}{s:PS}{key:Int}{p K:Nat}
def Tl (s:PS):PS:=Yc { s with told:=s.told++[(3,[])],now:=none,hi:=⟨s.hi.lines,s.hi.most,(s.hi.lines.length:Int),[],s.hi.pattern,s.hi.older⟩ } [] 1
def aZ (s:PS):PS:={ s with told:=s.told++[(4,[])],over:=true }
noncomputable def Pk (s:PS)(key:Int):PS:=
 if(Bp s.part key).how=2 then Di { s with part:=(Bp s.part key).p } (Bp s.part key).c
 else if(Bp s.part key).how=3 then Ec { s with part:=(Bp s.part key).p }
 else { s with part:=(Bp s.part key).p }
noncomputable def Ez (s:PS)(key:Int):PS:=
 if key=3 then Tl s
 else if s.mode=3 then Mr s key
 else if key=13∨key=10 then Nt s
 else if key=4 then(if s.tx=[]then aZ s else Ec s)
 else if s.mode≠0 then Cn s key
 else Pk s key
theorem oR (h:Dm w col p v s)(hq:s.told.length≤500000000000):
 Calls prog 40 #[.pointer (some ⟨p,0,none⟩),.int .i64 3] w fun e w'=>e=.returned (.tuple #[])∧C6 p w col (Tl s) w':=by
 have HT:=A6 (V7 (k:=3) (y:=.slice none 0 0) (l:=[]) h (fun _ w' _ _=>Bl.nil w' 0) (by omega))
 clear h;go_enter func40,ntmps40
 go_wp2_with fail
 refine HT.out.mono ?_
 rintro e w1 ⟨rfl,col1,v1,dm,nh⟩;obtain⟨ej,ju⟩:=dm.drop;have d47:w1.cell? ⟨p,47,none⟩=some (.pointer v1.now):=dm.ses.blk.cell 47;have f47:=dm.ses.blk.frozen 47;have HTT:=A6 (nh.trans ju);have eu:=A6 ej;clear dm nh ju ej HT;go_upto_region 10 with fail
 clear d47 f47;generalize w1.setCell ⟨p,47,none⟩ (.pointer none)=w2 at*;have ak:=eu.out.ses.blk;obtain⟨A,n,c,S,sn,sc,P,pn,pc,e,hL,RO,hP⟩:=eu.out.ses.dat.here.his;have e1:v1.h0=.slice A n c∧v1.h4=.slice P pn pc:=by
  have:=congrArg (fun x=>match x with|Value.agg a=>(a[0]?,a[4]?)|_=>(none,none)) e
  exact I93
 have hn:s.hi.lines.length=n:=hL.lns.len;have d37:w2.cell? ⟨p,37,none⟩=some (.slice A n c):=(ak.cell 37).trans (congrArg some e1.1);have d39:w2.cell? ⟨p,39,none⟩=some (.int .i64 s.hi.at_):=ak.cell 39;have d40:w2.cell? ⟨p,40,none⟩=some v1.h3:=ak.cell 40;have f39:=ak.frozen 39;have f40:=ak.frozen 40;have hr:=eu.out.chain (((E5.start (An.refl _) ak).set 39 (.int .i64 (n:Int))).set 40 nl) { { v1 with now:=none }with h3:=nl }
  { { { s with told:=s.told++[(3,[])] }with now:=none }with hi:=⟨s.hi.lines,s.hi.most,(n:Int),[],s.hi.pattern,s.hi.older⟩ } (by kernel_rfl)
  (fun w'' _ ht hd=>⟨hd.1,hd.2,hd.3,by
   obtain⟨A',n',c',S',bp,bq,P',bc,pc',e',hL',_,hP'⟩:=hd.4;have e2:v1.h0=.slice A' n' c'∧v1.h4=.slice P' bc pc':=by
    have:=congrArg (fun x=>match x with|Value.agg a=>(a[0]?,a[4]?)|_=>(none,none)) e'
    exact I93
   exact⟨A',n',c',none,0,0,P',bc,pc',by unfold Ln Ct nl;rw[←e2.1,←e2.2],hL',Bl.nil w'' 0,hP'⟩,hd.5,hd.6,hd.7,hd.8⟩)
 have IV:=A6 (Qa (md:=1) hr.1 (Bj.none_ _) (by omega))
 have HT3:=A6 (HTT.out.trans hr.2);have HF:Hid (Tl s=Yc { { { s with told:=s.told++[(3,[])] }with now:=none }with hi:=⟨s.hi.lines,s.hi.most,(n:Int),[],s.hi.pattern,s.hi.older⟩ } [] 1):=A6 (by unfold Tl;rw[hn])
 clear ak hr hL RO hP e e1 eu HTT;unfold nl at IV HT3;go_wp2_with fail
 refine IV.out.mono ?_
 rintro e w3 ⟨rfl,hd⟩;have HR:=A6 (C6.trans HT3.out hd);clear hd IV;exact I80
theorem iY (h:Dm w col p v s)(ok:SOk K s)(h3:(key==3)=false)(hm:s.mode=3):
 Calls prog 40 #[.pointer (some ⟨p,0,none⟩),.int .i64 key] w fun e w'=>e=.returned (.tuple #[])∧C6 p w col (Mr s key) w':=by
 have d2:w.cell? ⟨p,2,none⟩=some (.int .i64 s.mode):=h.ses.blk.cell 2;rw[hm]at d2;have HA:=A6 (xG h ok key);clear h ok hm;exact I152
theorem jA (h:Dm w col p v s)(hl:s.tx.length≤200)(hq:s.told.length≤500000000000)(hk:key=13∨key=10)(hm:(s.mode==3)=false):
 Calls prog 40 #[.pointer (some ⟨p,0,none⟩),.int .i64 key] w fun e w'=>e=.returned (.tuple #[])∧C6 p w col (Nt s) w':=by
 have d2:w.cell? ⟨p,2,none⟩=some (.int .i64 s.mode):=h.ses.blk.cell 2;have HA:=A6 (qR h hl (by omega))
 clear h;rcases hk with rfl|rfl
 all_goals
  go_enter func40,ntmps40
  exact I30
theorem vC (h:Dm w col p v s)(hq:s.told.length≤500000000000)(ht:s.tx=[])(hm:(s.mode==3)=false):
 Calls prog 40 #[.pointer (some ⟨p,0,none⟩),.int .i64 4] w fun e w'=>e=.returned (.tuple #[])∧C6 p w col (aZ s) w':=by
 have N0:=trivial;exact K46
theorem iZ (h:Dm w col p v s)(hl:s.tx.length≤200)(hq:s.told.length≤500000000000)(ht:s.tx≠[])(hm:(s.mode==3)=false):
 Calls prog 40 #[.pointer (some ⟨p,0,none⟩),.int .i64 4] w fun e w'=>e=.returned (.tuple #[])∧C6 p w col (Ec s) w':=by
 have N1:=trivial;exact K46
theorem oQ (h:Dm w col p v s)(hl:xP s)(hk:KOk K s)(hK:K≤1000000000)(hq:s.told.length≤500000000000)
 (h3:(key==3)=false) (td:(key==13)=false) (vz:(key==10)=false) (h4:(key==4)=false) (hm:s.mode=1∨s.mode=2):
 Calls prog 40 #[.pointer (some ⟨p,0,none⟩),.int .i64 key] w fun e w'=>e=.returned (.tuple #[])∧C6 p w col (Cn s key) w':=by
 have d2:w.cell? ⟨p,2,none⟩=some (.int .i64 s.mode):=h.ses.blk.cell 2;have HA:=A6 (Vy (key:=key) h hl hm hk hK (by omega))
 clear h hl hk;have m3:(s.mode==3)=false:=by rcases hm with e|e<;>rw[e]<;>rfl
 have m0:(s.mode !=0)=true:=by rcases hm with e|e<;>rw[e]<;>rfl
 clear hm;exact I152
theorem zX (h:Dm w col p v s)(ok:∀pt,SOk K { s with part:=pt })(hp:Ew s.part=true)
 (h3:(key==3)=false) (td:(key==13)=false) (vz:(key==10)=false) (h4:(key==4)=false) (hm:s.mode=0):
 Calls prog 40 #[.pointer (some ⟨p,0,none⟩),.int .i64 key] w fun e w'=>e=.returned (.tuple #[])∧C6 p w col (Pk s key) w':=by
 have hb:=h.ses.blk;have d2:w.cell? ⟨p,2,none⟩=some (.int .i64 s.mode):=hb.cell 2;rw[hm]at d2;have d32:w.cell? ⟨p,32,none⟩=some (.int .i64 s.part.first):=hb.cell 32;have d33:w.cell? ⟨p,33,none⟩=some (.int .i64 s.part.reg):=hb.cell 33;have d34:w.cell? ⟨p,34,none⟩=some (.int .i64 s.part.op):=hb.cell 34;have d35:w.cell? ⟨p,35,none⟩=some (.int .i64 s.part.second):=hb.cell 35;have d36:w.cell? ⟨p,36,none⟩=some (.int .i64 s.part.wait):=hb.cell 36;have HT:=A6 (uY (k:=key) w hp);obtain⟨tk,mq⟩:∃x,x=Bp s.part key:=⟨_,rfl⟩;rw[←mq]at HT;have HF:Hid (Pk s key=if tk.how=2 then Di { s with part:=tk.p } tk.c else if tk.how=3 then Ec { s with part:=tk.p }else { s with part:=tk.p }):=A6 (by unfold Pk;rw[mq])
 clear mq;obtain⟨⟨pf,pr,po,ps,pw⟩,⟨c1,c2,c3,c4,c5⟩,how⟩:=tk;have H:=A6 h;clear h hb hp hm;go_enter func40,ntmps40
 go_wp2_with fail
 refine HT.out.mono ?_
 rintro e w1 ⟨rfl,he⟩;unfold Uc Kb xN;go_upto_region 1 with fail
 have bn:=(Aq.new w1 34 #[.int .i64 pf,.int .i64 pr,.int .i64 po,.int .i64 ps,.int .i64 pw]).ext (An.alloc _ (.cells #[c1,c2,c3,c4,c5] 62));have cg:=Aq.new (w1.alloc (.cells #[pf,pr,po,ps,pw] 34)) 62 #[.int .i64 c1,.int .i64 c2,.int .i64 c3,.int .i64 c4,.int .i64 c5];rw[World.size_alloc]at cg;have bt:=he.trans ((An.alloc w1 (.cells #[pf,pr,po,ps,pw] 34)).to_alloc (.cells #[c1,c2,c3,c4,c5] 62));have ai:p≠w1.heap.size+1:=by have:=H.out.ses.blk.lt;have:=he.hsize;omega
 clear d2 d32 d33 d34 d35 d36;change Code.wp _ _ _ _ ((w1.alloc (.cells #[pf,pr,po,ps,pw] 34)).alloc (.cells #[c1,c2,c3,c4,c5] 62));generalize (w1.alloc (.cells #[pf,pr,po,ps,pw] 34)).alloc (.cells #[c1,c2,c3,c4,c5] 62)=w2 at*;have hb:=H.out.ses.blk.ext bt;have d32:w2.cell? ⟨p,32,none⟩=some (.int .i64 s.part.first):=hb.cell 32;have d33:w2.cell? ⟨p,33,none⟩=some (.int .i64 s.part.reg):=hb.cell 33;have d34:w2.cell? ⟨p,34,none⟩=some (.int .i64 s.part.op):=hb.cell 34;have d35:w2.cell? ⟨p,35,none⟩=some (.int .i64 s.part.second):=hb.cell 35;have d36:w2.cell? ⟨p,36,none⟩=some (.int .i64 s.part.wait):=hb.cell 36;have f32:=hb.frozen 32;have f33:=hb.frozen 33;have f34:=hb.frozen 34;have f35:=hb.frozen 35;have f36:=hb.frozen 36;have e0:w2.cell? ⟨w1,0,none⟩=some (.int .i64 pf):=bn.cell 0;have e1:w2.cell? ⟨w1,1,none⟩=some (.int .i64 pr):=bn.cell 1;have e2:w2.cell? ⟨w1,2,none⟩=some (.int .i64 po):=bn.cell 2;have e3:w2.cell? ⟨w1,3,none⟩=some (.int .i64 ps):=bn.cell 3;have e4:w2.cell? ⟨w1,4,none⟩=some (.int .i64 pw):=bn.cell 4;have cc:=(((((E5.start bt hb).set 32 (.int .i64 pf)).set 33 (.int .i64 pr)).set 34 (.int .i64 po)).set 35 (.int .i64 ps)).set 36 (.int .i64 pw);have fe:=A6 (H.out.chain cc v { s with part:=⟨pf,pr,po,ps,pw⟩ } (by kernel_rfl) (fun w'' _ ht hd=>⟨hd.1,hd.2,hd.3,hd.4,hd.5,hd.6,hd.7,hd.8⟩))
 have pp:=A6 (Hg (i:=36) (u:=.int .i64 pw) (Hg (i:=35) (u:=.int .i64 ps) (Hg (i:=34) (u:=.int .i64 po) (Hg (i:=33) (u:=.int .i64 pr) (Hg (i:=32) (u:=.int .i64 pf) cg ai) ai) ai) ai) ai);have AA:=A6 (ok ⟨pf,pr,po,ps,pw⟩);clear hb bn cg bt cc HT he ok;go_upto_region 2 with fail
 clear d32 d33 d34 d35 d36 f32 f33 f34 f35 f36 e0 e1 e2 e3 e4;generalize Bh (Bh (Bh (Bh (Bh _ _ _) _ _) _ _) _ _) _ _=w3 at*;by_cases SZ:how=2
 ·subst SZ
  have YI:=A6 (eN fe.out.1 AA.out ⟨c1,c2,c3,c4,c5⟩);unfold Pe at YI;have e0:w3.cell? ⟨w1.heap.size+1,0,none⟩=some (.int .i64 c1):=pp.out.cell 0;have e1:w3.cell? ⟨w1.heap.size+1,1,none⟩=some (.int .i64 c2):=pp.out.cell 1;have e2:w3.cell? ⟨w1.heap.size+1,2,none⟩=some (.int .i64 c3):=pp.out.cell 2;have e3:w3.cell? ⟨w1.heap.size+1,3,none⟩=some (.int .i64 c4):=pp.out.cell 3;have e4:w3.cell? ⟨w1.heap.size+1,4,none⟩=some (.int .i64 c5):=pp.out.cell 4;go_wp2_with fail
  refine YI.out.mono ?_
  rintro e w4 ⟨rfl,hd⟩;have HR:=A6 (C6.trans fe.out.2 hd);clear hd YI e0 e1 e2 e3 e4;exact I80
 ·have hh2b:(how==2)=false:=by simpa using SZ
  by_cases vv:how=3
  ·subst vv
   have HB:=A6 (Lf fe.out.1 (by have:=AA.out.told;show s.told.length≤_;have:s.told.length≤500000000000:=this;omega))
   go_wp2_with fail
   refine HB.out.mono ?_
   rintro e w4 ⟨rfl,hd⟩;have HR:=A6 (C6.trans fe.out.2 hd);clear hd HB;exact I80
  ·have hh3b:(how==3)=false:=by simpa using vv
   have HR:Hid (C6 p w col (Pk s key) w3):=A6 (by
    rw[HF.out]
    show C6 p w col (if how=2 then _ else if how=3 then _ else _) w3
    rw[if_neg SZ,if_neg vv];exact⟨_,_,fe.out.1,fe.out.2⟩)
   clear SZ vv;go_wp2_with fail
   go_end0
   exact⟨rfl,HR.out⟩
end
