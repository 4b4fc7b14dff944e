/-
  Part ZKeyO.
-/
import Derived.Test.YtkaefdmhlmlhbaaGreatZKeyV1
import Derived.Deep.DeepCutAuto
import Derived.Deep.CutRange
import Derived.Deep.CutBlock
import Derived.Deep.Light
set_option maxRecDepth 100000
set_option maxHeartbeats 16000000
set_option linter.unusedVariables false
set_option linter.unusedSimpArgs false
namespace Go.Proofs.YtkaefdmhlmlhbaaGreat
open Go.RowKit
open _root_.Go.Proofs.Tryz
open _root_.List renaming getElem?_cons_zero→Af,getElem?_toArray→Ah
open _root_.Nat renaming le_succ→Cc
section
variable {p l:List Int}{f r o v a:Int}
theorem sQ {b:Bool}(w:World)(hb:Pj ⟨f,r,o,v,a⟩=b):
 Calls prog 42 #[.agg #[f,r,o,v,a]] w fun e w'=>e=.returned (.bool b)∧An w w':=by
 by_cases h1:v=102∨v=70∨v=116∨v=84∨v=114
 ·obtain rfl:true=b:=by rw[←hb];rcases h1 with rfl|rfl|rfl|rfl|rfl<;>rfl
  clear hb;rcases h1 with rfl|rfl|rfl|rfl|rfl
  all_goals
   go_enter func42,ntmps42
   exact I70
 ·by_cases h2:v=105∨v=97
  ·obtain rfl:(o !=0)=b:=by rw[←hb];rcases h2 with rfl|rfl<;>rfl
   clear hb h1;rcases h2 with rfl|rfl
   all_goals
    go_enter func42,ntmps42
    exact I70
  ·obtain rfl:false=b:=by
    rw[←hb];unfold Pj Ex;rw[if_neg (by simp;omega),if_neg (by simp;omega)]
   clear hb;have e1:(v==102)=false:=by simp;omega
   have e2:(v==70)=false:=by simp;omega
   have e3:(v==116)=false:=by simp;omega
   have e4:(v==84)=false:=by simp;omega
   have e5:(v==114)=false:=by simp;omega
   have e6:(v==105)=false:=by simp;omega
   have e7:(v==97)=false:=by simp;omega
   clear h1 h2;go_enter func42,ntmps42
   exact I70
theorem uS {w:World}{t:Nat}(l:List Int)(hl:l.length≤100):Bj (w.alloc (.cells (l.map (Value.int .i64)).toArray t)) (some ⟨w,0,none⟩) l.length l.length l:=
 Aq.ints (t:=t) (Aq.new w t _) rfl (by unfold maxLen;omega)
def J6q (c:Cm)(w:World)(e:Ending)(w':World):Prop:=
 An w w'∧((∃k:Int,e=.returned (.tuple #[(),k])∧k≠0∧¬(0≤c.count∧c.count≤999∧Fw (En c)=⟨[c],Pt.zero,0⟩))∨
  (∃O q d,e=.returned (.tuple #[.slice O q d,(0:Int)])∧Ba w' w.heap.size O q d (En c)∧Fw (En c)=⟨[c],Pt.zero,0⟩))
def J5o (f:Int)(p:List Int)(n:Int)(l:List Int)(q:Nat):Prop:=
 (n=100∧l=p∧q≤2)∨(n=10∧l=p++(if 100≤f then [48+f/100%10]else [])∧q≤3)∨(n=1∧l=p++((if 100≤f then [48+f/100%10]else [])++(if 10≤f then [48+f/10%10]else []))∧q≤4)∨(n=0∧l=p++Lr f)
theorem pM (h:100≤f)(hl:l=p):l++[48+f/100%10]=p++(if 100≤f then [48+f/100%10]else []):=by rw[if_pos h,hl]
theorem pL (h:¬100≤f)(hl:l=p):l=p++(if 100≤f then [48+f/100%10]else []):=by rw[if_neg h,hl];simp
theorem wK (h:10≤f)(hl:l=p++(if 100≤f then [48+f/100%10]else [])):l++[48+f/10%10]=p++((if 100≤f then [48+f/100%10]else [])++(if 10≤f then [48+f/10%10]else [])):=by rw[if_pos h,hl,List.append_assoc]
theorem wJ (h:¬10≤f)(hl:l=p++(if 100≤f then [48+f/100%10]else [])):l=p++((if 100≤f then [48+f/100%10]else [])++(if 10≤f then [48+f/10%10]else [])):=by rw[if_neg h,hl];simp
theorem J1d (h:1≤f)(hl:l=p++((if 100≤f then [48+f/100%10]else [])++(if 10≤f then [48+f/10%10]else []))):l++[48+f%10]=p++Lr f:=by unfold Lr;rw[if_pos h,hl];simp only[List.append_assoc]
theorem J1c (h:¬1≤f)(hl:l=p++((if 100≤f then [48+f/100%10]else [])++(if 10≤f then [48+f/10%10]else []))):l=p++Lr f:=by unfold Lr;rw[if_neg h,hl];simp only[List.append_nil]
theorem ne5 {x0 x1 x2 x3 x4 y0 y1 y2 y3 y4:Int}(h:¬(x0=y0∧x1=y1∧x2=y2∧x3=y3∧x4=y4)):
 x0≠y0∨(x0=y0∧x1≠y1)∨(x0=y0∧x1=y1∧x2≠y2)∨(x0=y0∧x1=y1∧x2=y2∧x3≠y3)∨(x0=y0∧x1=y1∧x2=y2∧x3=y3∧x4≠y4):=by omega
theorem Yu (w:World):Calls prog 23 #[.agg #[f,r,o,v,a]] w (J6q ⟨f,r,o,v,a⟩ w):=by
 obtain⟨i0,hi,bm,bz,az⟩:=info_parts Cd;by_cases nz:0≤f∧f≤999
 ·obtain⟨LH,hf9⟩:=nz
  have hP:=Aq.new w 62 #[.int .i64 f,.int .i64 r,.int .i64 o,.int .i64 v,.int .i64 a];have hX:=An.alloc w (.cells #[f,r,o,v,a] 62);have HP:=A6 hP;have HX:=A6 hX;clear hP hX;go_enter func23,ntmps23
  go_upto_if 19 with fail
  go_cut [4] (fun s4 wx=>∃O q d,s4=.slice O q d∧Hid (Ba wx (w.heap.size+1) O q d (Uz ⟨f,r,o,v,a⟩))∧q≤2∧Hid (Aq wx w.heap.size 62 #[.int .i64 f,.int .i64 r,.int .i64 o,.int .i64 v,.int .i64 a])∧Hid (An w wx)∧w.heap.size+1≤wx.heap.size)
  case first=>
   by_cases h0:r=0
   ·subst h0
    go_wp2_with fail
    go_meet
    exact⟨none,0,0,rfl,A6 (Ba.nil _ _),by omega,HP,HX,by simp⟩
   ·have h0b:(r !=0)=true:=by simpa using h0
    have hl:Hid (Bj ((w.alloc (.cells #[f,r,o,v,a] 62)).alloc (.cells #[(34:Int),r] 3)) (some ⟨w.heap.size+1,0,none⟩) 2 2 [34,r]):=A6 (by
     have h:=uS (w:=w.alloc (.cells #[f,r,o,v,a] 62)) (t:=3) [34,r] (by simp)
     rwa[World.size_alloc]at h)
    go_wp2_with (at_builtin;refine Eh rfl (.tmp 20) (.tmp 23) 25 rfl w (w.heap.size+1) 3 i0 (.int .i64 0) 1 8 underlying25 hi bm bz az rfl (by decide) none 0 0 [] rfl (Bd.nil _ _ _ _) (some ⟨w.heap.size+1,0,none⟩) 2 2 [.int .i64 34,.int .i64 r] rfl hl.out ?_ ?_ ?_ (HX.out.to_alloc _) (Cc _) ?_ ?_)
    ·intro u hu
     simp at hu;rcases hu with rfl|rfl<;>rfl
    ·unfold maxLen;omega
    ·omega
    ·simp
    ·intro A2 c2 w2 k1 k2 k3 k4
     have K1:Hid (Ba w2 (w.heap.size+1) A2 2 c2 (Uz ⟨f,r,o,v,a⟩)):=A6 (by unfold Uz;rw[if_neg h0];exact k1)
     have K2:=A6 ((HP.out.ext (An.alloc _ _)).grown k2 (by simp[Value.ownBlock]))
     have K4:=A6 k4;have hz:=k4.hsize;have az:w.heap.size+1≤w2.heap.size:=K2.out.lt;clear k1 k2 k3 k4 hl h0b;go_wp2_with fail
     go_meet
     exact⟨A2,2,c2,rfl,K1,by omega,K2,K4,az⟩
  case rest=>
   obtain⟨O,q,d,rfl,dj,hq,Hb,He,dy⟩:=hcut;clear HP HX;have pc:=Hb.out.cell 0;simp only[Ah,Af]at pc;go_wp2_with fail
   go_loopw [4,5] (fun s4 s5 wx=>∃(n:Int) (l:List Int) (O:Option Addr) (q d:Nat),s5=.int .i64 n∧s4=.slice O q d∧q≤5∧J5o f (Uz ⟨f,r,o,v,a⟩) n l q∧Hid (Ba wx (w.heap.size+1) O q d l)∧Hid (Aq wx w.heap.size 62 #[.int .i64 f,.int .i64 r,.int .i64 o,.int .i64 v,.int .i64 a])∧Hid (An w wx)∧w.heap.size+1≤wx.heap.size) (fun _ s5 _=>(intOf s5).toNat)
   case atStart=>exact⟨100,_,O,q,d,rfl,rfl,by omega,.inl ⟨rfl,rfl,hq⟩,dj,Hb,He,dy⟩
   case round=>
    clear dj hq Hb He dy pc;obtain⟨n,l,O,q,d,rfl,rfl,hq,j8,dj,Hb,He,dy⟩:=hrel;have pc:=Hb.out.cell 0;simp only[Ah,Af]at pc;rcases j8 with⟨rfl,hl,bf⟩|⟨rfl,hl,bf⟩|⟨rfl,hl,bf⟩|⟨rfl,hl⟩
    ·have HL:=A6 hl
     clear hl;by_cases hn:100≤f
     ·have N0:=trivial;exact K47
     ·go_wp2_with fail
      go_roundw
      case rel=>exact⟨10,_,O,q,d,rfl,rfl,by omega,.inr (.inl ⟨rfl,pL hn HL.out,by omega⟩),dj,Hb,He,dy⟩
      case measure=>simp[intOf]
    ·have HL:=A6 hl
     clear hl;by_cases hn:10≤f
     ·have N1:=trivial;exact K47
     ·go_wp2_with fail
      go_roundw
      case rel=>exact⟨1,_,O,q,d,rfl,rfl,by omega,.inr (.inr (.inl ⟨rfl,wJ hn HL.out,by omega⟩)),dj,Hb,He,dy⟩
      case measure=>simp[intOf]
    ·have HL:=A6 hl
     clear hl;by_cases hn:1≤f
     ·have N2:=trivial;exact K47
     ·go_wp2_with fail
      go_roundw
      case rel=>exact⟨0,_,O,q,d,rfl,rfl,by omega,.inr (.inr (.inr ⟨rfl,J1c hn HL.out⟩)),dj,Hb,He,dy⟩
      case measure=>simp[intOf]
    ·have Hl:Hid (l=Uz ⟨f,r,o,v,a⟩++Lr f):=A6 hl
     clear hl;have pc2:=Hb.out.cell 2;simp only[Ah,Af,List.getElem?_cons_succ]at pc2;go_upto_if 44 with fail
     go_cut [4] (fun s4 wx=>∃(O:Option Addr) (q d:Nat),s4=.slice O q d∧Hid (Ba wx (w.heap.size+1) O q d (l++Te ⟨f,r,o,v,a⟩))∧q≤6∧Hid (Aq wx w.heap.size 62 #[.int .i64 f,.int .i64 r,.int .i64 o,.int .i64 v,.int .i64 a])∧Hid (An w wx)∧w.heap.size+1≤wx.heap.size)
     case first=>
      by_cases h0:o=0
      ·subst h0
       go_wp2_with fail
       go_meet
       exact⟨O,q,d,rfl,A6 (by unfold Te;rw[if_pos rfl,List.append_nil];exact dj.out),by omega,Hb,He,dy⟩
      ·have h0b:(o !=0)=true:=by simpa using h0
       have ac:=dj.out;have he:=He.out;go_wp2_with (at_builtin;refine C9 rfl (.tmp 45) (.tmp 48) 25 rfl w (w.heap.size+1) 3 i0 (.int .i64 0) 1 8 underlying25 hi bm bz az rfl (by decide) O q d _ rfl ac #[.int .i64 (o)] rfl ?_ rfl ?_ ?_ he (Cc _) dy ?_)
       ·rfl
       ·unfold maxLen;omega
       ·omega
       ·intro A2 c2 w2 k1 k2 k3 k4
        have K1:Hid (Ba w2 (w.heap.size+1) A2 (q+1) c2 (l++Te ⟨f,r,o,v,a⟩)):=A6 (by unfold Te;rw[if_neg h0];simpa[Ba]using k1)
        have K2:=A6 (Hb.out.grown k2 (fun e=>by have:=(Bd.blk dj.out _ e.symm).1;omega))
        have K4:=A6 k4;have az:w.heap.size+1≤w2.heap.size:=K2.out.lt;clear k1 k2 k3 k4 ac he pc pc2 dj Hb He dy;go_wp2_with fail
        go_meet
        exact⟨A2,q+1,c2,rfl,K1,by omega,K2,K4,az⟩
     case rest=>
      clear pc pc2 dj hq Hb He dy;obtain⟨O,q,d,rfl,dj,hq,Hb,He,dy⟩:=hcut;obtain⟨⟨pc0,pc1,pc2,pc3,pc4⟩,_⟩:=Hb.out.five;have ac:=dj.out;have he:=He.out;go_wp2_with (at_builtin;refine C9 rfl (.tmp 50) (.tmp 53) 25 rfl w (w.heap.size+1) 3 i0 (.int .i64 0) 1 8 underlying25 hi bm bz az rfl (by decide) O q d _ rfl ac #[.int .i64 (v)] rfl ?_ rfl ?_ ?_ he (Cc _) dy ?_)
      ·rfl
      ·unfold maxLen;omega
      ·omega
      ·intro A2 c2 w2 k1 k2 k3 k4
       have K1:Hid (Ba w2 (w.heap.size+1) A2 (q+1) c2 (l++Te ⟨f,r,o,v,a⟩++[v])):=A6 (by simpa[Ba]using k1)
       have K2:=A6 (Hb.out.grown k2 (fun e=>by have:=(Bd.blk dj.out _ e.symm).1;omega))
       have K4:=A6 k4;have az:w.heap.size+1≤w2.heap.size:=K2.out.lt;clear k1 k2 k3 k4 ac he pc0 pc1 pc2 pc3 pc4 dj Hb He dy;obtain⟨⟨pc0,pc1,pc2,pc3,pc4⟩,_⟩:=K2.out.five;obtain⟨bw,XA⟩:∃b,Pj ⟨f,r,o,v,a⟩=b:=⟨_,rfl⟩;have HW:=A6 (sQ w2 XA);have XB:=A6 XA;clear XA;go_wp2_with fail
       refine(HW.out).mono ?_
       rintro e w3 ⟨rfl,cu⟩;have dj:Hid (Ba w3 (w.heap.size+1) A2 (q+1) c2 (l++Te ⟨f,r,o,v,a⟩++[v])):=A6 (K1.out.ext cu);have Hb:=A6 (Aq.ext K2.out cu);have He:=A6 (K4.out.trans cu);have dy:w.heap.size+1≤w3.heap.size:=Nat.le_trans az cu.hsize;clear pc0 pc1 pc2 pc3 pc4 HW K1 K2 K4 az cu;obtain⟨⟨pc0,pc1,pc2,pc3,pc4⟩,_⟩:=Hb.out.five;generalize A2=O at*;generalize c2=d at*;go_upto_if 56 with fail
       go_cut [4] (fun s4 wx=>∃(O:Option Addr) (q d:Nat),s4=.slice O q d∧Hid (Ba wx (w.heap.size+1) O q d (En ⟨f,r,o,v,a⟩))∧Hid (Aq wx w.heap.size 62 #[.int .i64 f,.int .i64 r,.int .i64 o,.int .i64 v,.int .i64 a])∧Hid (An w wx)∧w.heap.size+1≤wx.heap.size)
       case first=>
        cases bw with
        |false=>
         go_wp2_with fail
         go_meet
         exact⟨O,q+1,d,rfl,A6 (by unfold En V1;rw[XB.out,if_neg (by simp)];have:=dj.out;rw[Hl.out]at this;simpa using this),Hb,He,dy⟩
        |true=>
         have ac:=dj.out;have he:=He.out;go_wp2_with (at_builtin;refine C9 rfl (.tmp 57) (.tmp 60) 25 rfl w (w.heap.size+1) 3 i0 (.int .i64 0) 1 8 underlying25 hi bm bz az rfl (by decide) O (q+1) d _ rfl ac #[.int .i64 (a)] rfl ?_ rfl ?_ ?_ he (Cc _) dy ?_)
         ·rfl
         ·unfold maxLen;omega
         ·omega
         ·intro A2 c2 w2 k1 k2 k3 k4
          have K1:Hid (Ba w2 (w.heap.size+1) A2 (q+1+1) c2 (En ⟨f,r,o,v,a⟩)):=A6 (by unfold En V1;rw[XB.out,if_pos rfl];rw[Hl.out]at k1;simpa[Ba]using k1)
          have K2:=A6 (Hb.out.grown k2 (fun e=>by have:=(Bd.blk dj.out _ e.symm).1;omega))
          have K4:=A6 k4;have az:w.heap.size+1≤w2.heap.size:=K2.out.lt;clear k1 k2 k3 k4 ac he pc0 pc1 pc2 pc3 pc4 dj Hb He dy;go_wp2_with fail
          go_meet
          exact⟨A2,q+1+1,c2,rfl,K1,K2,K4,az⟩
       case rest=>
        clear pc0 pc1 pc2 pc3 pc4 dj Hb He dy Hl XB hq;obtain⟨O,q,d,rfl,dj,Hb,He,dy⟩:=hcut;have hq:q≤8:=by have h1:=dj.out.ints.len;have h2:=Q4 ⟨f,r,o,v,a⟩;omega
        have BO:=A6 (J0a dj.out.ints (by omega))
        rcases hA:Fw (En ⟨f,r,o,v,a⟩)with⟨out,⟨p0,p1,p2,p3,p4⟩,wr⟩;have HA:=A6 hA;rw[hA]at BO;unfold Kb at BO;simp only at BO;clear hA;go_wp2_with fail
        refine BO.out.mono ?_
        rintro e w4 ⟨L,z,y,rfl,rL,ik⟩;have hl:out.length=z:=by have:=Rd.len rL;rw[cT]at this;omega
        have HL:Hid (Cms w4 L z y out):=A6 rL;have Od:=A6 (dj.out.ext ik);have Hb4:=A6 (Hb.out.ext ik);have RJ:=A6 (He.out.trans ik);have hg:=Hb4.out.lt;clear rL ik BO dj Hb He dy;have ea:=An.alloc w4 (.cells #[p0,p1,p2,p3,p4] 34);have JY:=Aq.new w4 34 #[.int .i64 p0,.int .i64 p1,.int .i64 p2,.int .i64 p3,.int .i64 p4];obtain⟨⟨c0,c1,c2,c3,c4⟩,_⟩:=(Hb4.out.ext ea).five;obtain⟨⟨e0,e1,e2,e3,e4⟩,_⟩:=JY.five;by_cases XC:z=1
        ·subst XC
         have Oe:Cms (w4.alloc (.cells #[p0,p1,p2,p3,p4] 34)) L 1 y out:=Rd.ext HL.out ea;obtain⟨ad,x,rfl,hx,a0,a1,a2,a3,a4⟩:=Oe.at_ (k:=0) (by omega)
         obtain rfl:out=[x]:=by
          cases out with
          |nil=>simp at hl
          |cons x' out=>cases out with
           |nil=>simp at hx;rw[hx]
           |cons _ _=>simp at hl
         simp only[Nat.zero_mul,Ei]at a0 a1 a2 a3 a4;obtain⟨x0,x1,x2,x3,x4⟩:=x;simp only at a0 a1 a2 a3 a4;clear hl hx Oe ea JY;by_cases d8:x0=f∧x1=r∧x2=o∧x3=v∧x4=a
         ·obtain⟨rfl,rfl,rfl,rfl,rfl⟩:=d8
          by_cases vw:p0=0∧p1=0∧p2=0∧p3=0∧p4=0
          ·obtain⟨rfl,rfl,rfl,rfl,rfl⟩:=vw
           by_cases me:wr=0
           ·subst me
            go_upto_region 17 with fail
            go_quiet (fail)
            go_wp2_with fail
            go_ret2
            exact⟨(RJ.out.trans (An.alloc _ _)).to_drewN _,.inr ⟨O,q,d,rfl,Bd.lower (Od.out.ext ((An.alloc _ _).to_drewN _)) (Cc _),HA.out⟩⟩
           ·have mg:((wr:Int) !=0)=true:=by simp;omega
            have jw:((wr:Int)==0)=false:=by simp;omega
            have QP:0<wr:=by omega
            go_upto_region 17 with fail
            go_quiet (fail)
            go_wp2_with fail
            go_ret2
            exact⟨(RJ.out.trans (An.alloc _ _)).to_drewN _,.inl ⟨4,rfl,by omega,by rw[HA.out];rintro⟨_,_,h⟩;injection h with _ _ h;exact me h⟩⟩
          ·have sh:Hid (¬(0≤x0∧x0≤999∧Fw (En ⟨x0,x1,x2,x3,x4⟩)=⟨[⟨x0,x1,x2,x3,x4⟩],Pt.zero,0⟩)):=A6 (by rw[HA.out];rintro⟨_,_,h⟩;injection h with _ h _;unfold Pt.zero at h;injection h with h0 h1 h2 h3 h4;exact vw ⟨h0,h1,h2,h3,h4⟩)
           rcases ne5 vw with ai|⟨rfl,ai⟩|⟨rfl,rfl,ai⟩|⟨rfl,rfl,rfl,ai⟩|⟨rfl,rfl,rfl,rfl,ai⟩
           all_goals clear vw
           ·have hn:¬p0=0:=ai
            have kl:(p0==0)=false:=by simpa using ai
            exact I3
           ·have hn:¬p1=0:=ai
            have kl:(p1==0)=false:=by simpa using ai
            exact I3
           ·have hn:¬p2=0:=ai
            have kl:(p2==0)=false:=by simpa using ai
            exact I3
           ·have hn:¬p3=0:=ai
            have kl:(p3==0)=false:=by simpa using ai
            exact I3
           ·have hn:¬p4=0:=ai
            have kl:(p4==0)=false:=by simpa using ai
            exact I3
         ·have sh:Hid (¬(0≤f∧f≤999∧Fw (En ⟨f,r,o,v,a⟩)=⟨[⟨f,r,o,v,a⟩],Pt.zero,0⟩)):=A6 (by rw[HA.out];rintro⟨_,_,h⟩;injection h with h _ _;injection h with h _;injection h with h0 h1 h2 h3 h4;exact d8 ⟨h0,h1,h2,h3,h4⟩)
          rcases ne5 d8 with ai|⟨rfl,ai⟩|⟨rfl,rfl,ai⟩|⟨rfl,rfl,rfl,ai⟩|⟨rfl,rfl,rfl,rfl,ai⟩
          all_goals clear d8
          ·have hn:¬x0=f:=ai
           have kl:(x0==f)=false:=by simpa using ai
           exact I3
          ·have hn:¬x1=r:=ai
           have kl:(x1==r)=false:=by simpa using ai
           exact I3
          ·have hn:¬x2=o:=ai
           have kl:(x2==o)=false:=by simpa using ai
           exact I3
          ·have hn:¬x3=v:=ai
           have kl:(x3==v)=false:=by simpa using ai
           exact I3
          ·have hn:¬x4=a:=ai
           have kl:(x4==a)=false:=by simpa using ai
           exact I3
        ·have vI:((z:Int) !=1)=true:=by simp;omega
         have vT:((z:Int)==1)=false:=by simp;omega
         clear ea JY;go_upto_region 17 with fail
         go_quiet (fail)
         go_wp2_with fail
         go_ret2
         exact⟨(RJ.out.trans (An.alloc _ _)).to_drewN _,.inl ⟨4,rfl,by omega,by rw[HA.out];rintro⟨_,_,h⟩;injection h with h _ _;rw[h]at hl;simp at hl;omega⟩⟩
 ·have BK:f<0∨999<f:=by omega
  clear nz;have HN:Hid (¬(0≤f∧f≤999∧Fw (En ⟨f,r,o,v,a⟩)=⟨[⟨f,r,o,v,a⟩],Pt.zero,0⟩)):=A6 (by rintro⟨h1,h2,_⟩;omega)
  rcases BK with h|h
  ·exact I59
  ·have h':¬f<0:=by omega
   exact I59
end
