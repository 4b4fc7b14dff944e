/-
  Part ZVjB.
-/
import Derived.Test.YtiahhfglhlgfiaaGreatZKeyV1
import Derived.Test.YtiahhfglhlgfiaaGreatZViP
set_option maxRecDepth 100000
set_option maxHeartbeats 16000000
set_option linter.unusedVariables false
set_option linter.unusedSimpArgs false
namespace Go.Proofs.YtiahhfglhlgfiaaGreat
open Go.RowKit
open World renaming setCell→Bb
section
variable {col:Nat→Nat}{w:World}{v:SV}{s:PS}{key:Int}{p K:Nat}
def Tb (s:PS):PS:=Yg { s with told:=s.told++[(3,[])],now:=none,hi:=⟨s.hi.lines,s.hi.most,(s.hi.lines.length:Int),[],s.hi.pattern,s.hi.older⟩ } [] 1
def Xp (s:PS):PS:={ s with told:=s.told++[(4,[])],over:=true }
noncomputable def T4 (s:PS)(key:Int):PS:=
 if(Cp s.part key).how=2 then Gf { s with part:=(Cp s.part key).p } (Cp s.part key).c
 else if(Cp s.part key).how=3 then Fe { s with part:=(Cp s.part key).p }
 else { s with part:=(Cp s.part key).p }
noncomputable def Fg (s:PS)(key:Int):PS:=
 if key=3 then Tb s
 else if s.mode=3 then P5 s key
 else if key=13∨key=10 then Sw s
 else if key=4 then(if s.tx=[]then Xp s else Fe s)
 else if s.mode≠0 then Eb s key
 else T4 s key
theorem iP (h:Db w col p v s)(hq:s.told.length≤500000000000):
 Calls Tryz.prog 13 #[.pointer (some ⟨p,0,none⟩),.int .i64 3] w fun e w'=>e=.returned (.tuple #[])∧Br p w col (Tb s) w':=by
 have HT:=A4 (Sn (k:=3) (y:=.slice none 0 0) (l:=[]) h (fun _ w' _ _=>Bg.nil w' 0) (by omega))
 clear h;go_enter Tryz.func13,Tryz.ntmps13
 go_wp2_with fail
 refine HT.out.mono ?_
 rintro e w1 ⟨rfl,col1,v1,hm1,ht1⟩;obtain⟨hm2,ht2⟩:=hm1.drop;have d47:w1.cell? ⟨p,47,none⟩=some (.pointer v1.now):=hm1.ses.blk.cell 47;have f47:=hm1.ses.blk.frozen 47;have HTT:=A4 (ht1.trans ht2);have HM2:=A4 hm2;clear hm1 ht1 ht2 hm2 HT;go_upto_region 10 with fail
 clear d47 f47;generalize w1.setCell ⟨p,47,none⟩ (.pointer none)=w2 at*;have hb2:=HM2.out.ses.blk;obtain⟨A,n,c,S,sn,sc,P,pn,pc,e,hL,hSc,hP⟩:=HM2.out.ses.dat.here.his;have e1:v1.h0=.slice A n c∧v1.h4=.slice P pn pc:=by
  have:=congrArg (fun x=>match x with|Value.agg a=>(a[0]?,a[4]?)|_=>(none,none)) e
  exact I85
 have hn:s.hi.lines.length=n:=hL.lns.len;have d37:w2.cell? ⟨p,37,none⟩=some (.slice A n c):=(hb2.cell 37).trans (congrArg some e1.1);have d39:w2.cell? ⟨p,39,none⟩=some (.int .i64 s.hi.at_):=hb2.cell 39;have d40:w2.cell? ⟨p,40,none⟩=some v1.h3:=hb2.cell 40;have f39:=hb2.frozen 39;have f40:=hb2.frozen 40;have hr:=HM2.out.chain (((Dh.start (Al.refl _) hb2).set 39 (.int .i64 (n:Int))).set 40 nl) { { v1 with now:=none }with h3:=nl }
  { { { s with told:=s.told++[(3,[])] }with now:=none }with hi:=⟨s.hi.lines,s.hi.most,(n:Int),[],s.hi.pattern,s.hi.older⟩ } (by kernel_rfl)
  (fun w'' _ ht hd=>⟨hd.1,hd.2,hd.3,by
   obtain⟨A',n',c',S',sn',sc',P',pn',pc',e',hL',_,hP'⟩:=hd.4;have e2:v1.h0=.slice A' n' c'∧v1.h4=.slice P' pn' pc':=by
    have:=congrArg (fun x=>match x with|Value.agg a=>(a[0]?,a[4]?)|_=>(none,none)) e'
    exact I85
   exact⟨A',n',c',none,0,0,P',pn',pc',by unfold Jz Ce nl;rw[←e2.1,←e2.2],hL',Bg.nil w'' 0,hP'⟩,hd.5,hd.6,hd.7,hd.8⟩)
 have HBg:=A4 (Mv (md:=1) hr.1 (Bi.none_ _) (by omega))
 have HT3:=A4 (HTT.out.trans hr.2);have HF:Hid (Tb s=Yg { { { s with told:=s.told++[(3,[])] }with now:=none }with hi:=⟨s.hi.lines,s.hi.most,(n:Int),[],s.hi.pattern,s.hi.older⟩ } [] 1):=A4 (by unfold Tb;rw[hn])
 clear hb2 hr hL hSc hP e e1 HM2 HTT;unfold nl at HBg HT3;go_wp2_with fail
 refine HBg.out.mono ?_
 rintro e w3 ⟨rfl,hd⟩;have HR:=A4 (Br.trans HT3.out hd);clear hd HBg;exact I74
theorem cW (h:Db w col p v s)(ok:tT K s)(h3:(key==3)=false)(hm:s.mode=3):
 Calls Tryz.prog 13 #[.pointer (some ⟨p,0,none⟩),.int .i64 key] w fun e w'=>e=.returned (.tuple #[])∧Br p w col (P5 s key) w':=by
 have d2:w.cell? ⟨p,2,none⟩=some (.int .i64 s.mode):=h.ses.blk.cell 2;rw[hm]at d2;have HA:=A4 (pE h ok key);clear h ok hm;exact I138
theorem cY (h:Db w col p v s)(hl:s.tx.length≤200)(hq:s.told.length≤500000000000)(hk:key=13∨key=10)(hm:(s.mode==3)=false):
 Calls Tryz.prog 13 #[.pointer (some ⟨p,0,none⟩),.int .i64 key] w fun e w'=>e=.returned (.tuple #[])∧Br p w col (Sw s) w':=by
 have d2:w.cell? ⟨p,2,none⟩=some (.int .i64 s.mode):=h.ses.blk.cell 2;have HA:=A4 (kE h hl (by omega))
 clear h;rcases hk with rfl|rfl
 all_goals
  go_enter Tryz.func13,Tryz.ntmps13
  exact I28
theorem nO (h:Db w col p v s)(hq:s.told.length≤500000000000)(ht:s.tx=[])(hm:(s.mode==3)=false):
 Calls Tryz.prog 13 #[.pointer (some ⟨p,0,none⟩),.int .i64 4] w fun e w'=>e=.returned (.tuple #[])∧Br p w col (Xp s) w':=by
 have N0:=trivial;exact zC
theorem cX (h:Db w col p v s)(hl:s.tx.length≤200)(hq:s.told.length≤500000000000)(ht:s.tx≠[])(hm:(s.mode==3)=false):
 Calls Tryz.prog 13 #[.pointer (some ⟨p,0,none⟩),.int .i64 4] w fun e w'=>e=.returned (.tuple #[])∧Br p w col (Fe s) w':=by
 have N1:=trivial;exact zC
theorem iO (h:Db w col p v s)(hl:pL s)(hk:tU K s)(hK:K≤1000000000)(hq:s.told.length≤500000000000)
 (h3:(key==3)=false) (h13:(key==13)=false) (h10:(key==10)=false) (h4:(key==4)=false) (hm:s.mode=1∨s.mode=2):
 Calls Tryz.prog 13 #[.pointer (some ⟨p,0,none⟩),.int .i64 key] w fun e w'=>e=.returned (.tuple #[])∧Br p w col (Eb s key) w':=by
 have d2:w.cell? ⟨p,2,none⟩=some (.int .i64 s.mode):=h.ses.blk.cell 2;have HA:=A4 (Th (key:=key) h hl hm hk hK (by omega))
 clear h hl hk;have m3:(s.mode==3)=false:=by rcases hm with e|e<;>rw[e]<;>rfl
 have m0:(s.mode !=0)=true:=by rcases hm with e|e<;>rw[e]<;>rfl
 clear hm;exact I138
theorem rN (h:Db w col p v s)(ok:∀pt,tT K { s with part:=pt })(hp:F5 s.part=true)
 (h3:(key==3)=false) (h13:(key==13)=false) (h10:(key==10)=false) (h4:(key==4)=false) (hm:s.mode=0):
 Calls Tryz.prog 13 #[.pointer (some ⟨p,0,none⟩),.int .i64 key] w fun e w'=>e=.returned (.tuple #[])∧Br p w col (T4 s key) w':=by
 have hb:=h.ses.blk;have d2:w.cell? ⟨p,2,none⟩=some (.int .i64 s.mode):=hb.cell 2;rw[hm]at d2;have d32:w.cell? ⟨p,32,none⟩=some (.int .i64 s.part.first):=hb.cell 32;have d33:w.cell? ⟨p,33,none⟩=some (.int .i64 s.part.reg):=hb.cell 33;have d34:w.cell? ⟨p,34,none⟩=some (.int .i64 s.part.op):=hb.cell 34;have d35:w.cell? ⟨p,35,none⟩=some (.int .i64 s.part.second):=hb.cell 35;have d36:w.cell? ⟨p,36,none⟩=some (.int .i64 s.part.wait):=hb.cell 36;have HT:=A4 (nM (k:=key) w hp);obtain⟨tk,htk⟩:∃x,x=Cp s.part key:=⟨_,rfl⟩;rw[←htk]at HT;have HF:Hid (T4 s key=if tk.how=2 then Gf { s with part:=tk.p } tk.c else if tk.how=3 then Fe { s with part:=tk.p }else { s with part:=tk.p }):=A4 (by unfold T4;rw[htk])
 clear htk;obtain⟨⟨pf,pr,po,ps,pw⟩,⟨c1,c2,c3,c4,c5⟩,how⟩:=tk;have H:=A4 h;clear h hb hp hm;go_enter Tryz.func13,Tryz.ntmps13
 go_wp2_with fail
 refine HT.out.mono ?_
 rintro e w1 ⟨rfl,he⟩;unfold Sd Ja pR;go_upto_region 1 with fail
 have hb4:=(An.new w1 36 #[.int .i64 pf,.int .i64 pr,.int .i64 po,.int .i64 ps,.int .i64 pw]).ext (Al.alloc _ (.cells #[.int .i64 c1,.int .i64 c2,.int .i64 c3,.int .i64 c4,.int .i64 c5] 87));have hb5:=An.new (w1.alloc (.cells #[.int .i64 pf,.int .i64 pr,.int .i64 po,.int .i64 ps,.int .i64 pw] 36)) 87 #[.int .i64 c1,.int .i64 c2,.int .i64 c3,.int .i64 c4,.int .i64 c5];rw[World.size_alloc]at hb5;have hx2:=he.trans ((Al.alloc w1 (.cells #[.int .i64 pf,.int .i64 pr,.int .i64 po,.int .i64 ps,.int .i64 pw] 36)).to_alloc (.cells #[.int .i64 c1,.int .i64 c2,.int .i64 c3,.int .i64 c4,.int .i64 c5] 87));have hne:p≠w1.heap.size+1:=by have:=H.out.ses.blk.lt;have:=he.hsize;omega
 clear d2 d32 d33 d34 d35 d36;change Code.wp _ _ _ _ ((w1.alloc (.cells #[.int .i64 pf,.int .i64 pr,.int .i64 po,.int .i64 ps,.int .i64 pw] 36)).alloc (.cells #[.int .i64 c1,.int .i64 c2,.int .i64 c3,.int .i64 c4,.int .i64 c5] 87));generalize (w1.alloc (.cells #[.int .i64 pf,.int .i64 pr,.int .i64 po,.int .i64 ps,.int .i64 pw] 36)).alloc (.cells #[.int .i64 c1,.int .i64 c2,.int .i64 c3,.int .i64 c4,.int .i64 c5] 87)=w2 at*;have hb:=H.out.ses.blk.ext hx2;have d32:w2.cell? ⟨p,32,none⟩=some (.int .i64 s.part.first):=hb.cell 32;have d33:w2.cell? ⟨p,33,none⟩=some (.int .i64 s.part.reg):=hb.cell 33;have d34:w2.cell? ⟨p,34,none⟩=some (.int .i64 s.part.op):=hb.cell 34;have d35:w2.cell? ⟨p,35,none⟩=some (.int .i64 s.part.second):=hb.cell 35;have d36:w2.cell? ⟨p,36,none⟩=some (.int .i64 s.part.wait):=hb.cell 36;have f32:=hb.frozen 32;have f33:=hb.frozen 33;have f34:=hb.frozen 34;have f35:=hb.frozen 35;have f36:=hb.frozen 36;have e0:w2.cell? ⟨w1.heap.size,0,none⟩=some (.int .i64 pf):=hb4.cell 0;have e1:w2.cell? ⟨w1.heap.size,1,none⟩=some (.int .i64 pr):=hb4.cell 1;have e2:w2.cell? ⟨w1.heap.size,2,none⟩=some (.int .i64 po):=hb4.cell 2;have e3:w2.cell? ⟨w1.heap.size,3,none⟩=some (.int .i64 ps):=hb4.cell 3;have e4:w2.cell? ⟨w1.heap.size,4,none⟩=some (.int .i64 pw):=hb4.cell 4;have cc:=(((((Dh.start hx2 hb).set 32 (.int .i64 pf)).set 33 (.int .i64 pr)).set 34 (.int .i64 po)).set 35 (.int .i64 ps)).set 36 (.int .i64 pw);have HM3:=A4 (H.out.chain cc v { s with part:=⟨pf,pr,po,ps,pw⟩ } (by kernel_rfl) (fun w'' _ ht hd=>⟨hd.1,hd.2,hd.3,hd.4,hd.5,hd.6,hd.7,hd.8⟩))
 have HB3:=A4 (Fv (i:=36) (u:=.int .i64 pw) (Fv (i:=35) (u:=.int .i64 ps) (Fv (i:=34) (u:=.int .i64 po) (Fv (i:=33) (u:=.int .i64 pr) (Fv (i:=32) (u:=.int .i64 pf) hb5 hne) hne) hne) hne) hne);have HOK:=A4 (ok ⟨pf,pr,po,ps,pw⟩);clear hb hb4 hb5 hx2 cc HT he ok;go_upto_region 2 with fail
 clear d32 d33 d34 d35 d36 f32 f33 f34 f35 f36 e0 e1 e2 e3 e4;generalize Bb (Bb (Bb (Bb (Bb _ _ _) _ _) _ _) _ _) _ _=w3 at*;by_cases hh2:how=2
 ·subst hh2
  have HCm:=A4 (Zv HM3.out.1 HOK.out ⟨c1,c2,c3,c4,c5⟩);unfold Ma at HCm;have e0:w3.cell? ⟨w1.heap.size+1,0,none⟩=some (.int .i64 c1):=HB3.out.cell 0;have e1:w3.cell? ⟨w1.heap.size+1,1,none⟩=some (.int .i64 c2):=HB3.out.cell 1;have e2:w3.cell? ⟨w1.heap.size+1,2,none⟩=some (.int .i64 c3):=HB3.out.cell 2;have e3:w3.cell? ⟨w1.heap.size+1,3,none⟩=some (.int .i64 c4):=HB3.out.cell 3;have e4:w3.cell? ⟨w1.heap.size+1,4,none⟩=some (.int .i64 c5):=HB3.out.cell 4;go_wp2_with fail
  refine HCm.out.mono ?_
  rintro e w4 ⟨rfl,hd⟩;have HR:=A4 (Br.trans HM3.out.2 hd);clear hd HCm e0 e1 e2 e3 e4;exact I74
 ·have hh2b:(how==2)=false:=by simpa using hh2
  by_cases hh3:how=3
  ·subst hh3
   have HB:=A4 (Js HM3.out.1 (by have:=HOK.out.told;show s.told.length≤_;have:s.told.length≤500000000000:=this;omega))
   go_wp2_with fail
   refine HB.out.mono ?_
   rintro e w4 ⟨rfl,hd⟩;have HR:=A4 (Br.trans HM3.out.2 hd);clear hd HB;exact I74
  ·have hh3b:(how==3)=false:=by simpa using hh3
   have HR:Hid (Br p w col (T4 s key) w3):=A4 (by
    rw[HF.out]
    show Br p w col (if how=2 then _ else if how=3 then _ else _) w3
    rw[if_neg hh2,if_neg hh3];exact⟨_,_,HM3.out.1,HM3.out.2⟩)
   clear hh2 hh3;go_wp2_with fail
   go_end0
   exact⟨rfl,HR.out⟩
end
