/-
  Part ZKeyO.
-/
import Derived.Test.YtkaefdmhlmlhbaaGreatZKeyW
import Derived.Deep.DeepCutAuto
import Derived.Deep.CutRange
import Derived.Deep.CutBlock
import Derived.Deep.Light
set_option maxRecDepth 100000
set_option maxHeartbeats 16000000
set_option linter.unusedVariables false
set_option linter.unusedSimpArgs false
namespace Go.Proofs.YtkaefdmhlmlhbaaGreat
open Go.RowKit
open _root_.List renaming getElem?_cons_zero→Af,getElem?_toArray→Ah
open _root_.Nat renaming le_succ→Cd
section
variable {p l:List Int}{f r o v a:Int}
theorem oQ {b:Bool}(w:World)(hb:Zw ⟨f,r,o,v,a⟩=b):
 Calls Tryz.prog 42 #[.agg #[.int .i64 f,.int .i64 r,.int .i64 o,.int .i64 v,.int .i64 a]] w fun e w'=>e=.returned (.bool b)∧An w w':=by
 by_cases h1:v=102∨v=70∨v=116∨v=84∨v=114
 ·obtain rfl:true=b:=by rw[←hb];rcases h1 with rfl|rfl|rfl|rfl|rfl<;>rfl
  clear hb;rcases h1 with rfl|rfl|rfl|rfl|rfl
  all_goals
   go_enter Tryz.func42,Tryz.ntmps42
   go_wp2_with fail
   go_ret
   exact⟨rfl,An.alloc _ _⟩
 ·by_cases h2:v=105∨v=97
  ·obtain rfl:(o !=0)=b:=by rw[←hb];rcases h2 with rfl|rfl<;>rfl
   clear hb h1;rcases h2 with rfl|rfl
   all_goals
    go_enter Tryz.func42,Tryz.ntmps42
    go_wp2_with fail
    go_ret
    exact⟨rfl,An.alloc _ _⟩
  ·obtain rfl:false=b:=by
    rw[←hb];unfold Zw Gq;rw[if_neg (by simp;omega),if_neg (by simp;omega)]
   clear hb;have e1:(v==102)=false:=by simp;omega
   have e2:(v==70)=false:=by simp;omega
   have e3:(v==116)=false:=by simp;omega
   have e4:(v==84)=false:=by simp;omega
   have e5:(v==114)=false:=by simp;omega
   have e6:(v==105)=false:=by simp;omega
   have e7:(v==97)=false:=by simp;omega
   clear h1 h2;go_enter Tryz.func42,Tryz.ntmps42
   go_wp2_with fail
   go_ret
   exact⟨rfl,An.alloc _ _⟩
theorem qM {w:World}{t:Nat}(l:List Int)(hl:l.length≤100):Bl (w.alloc (.cells (l.map (Value.int .i64)).toArray t)) (some ⟨w.heap.size,0,none⟩) l.length l.length l:=
 Aq.ints (t:=t) (Aq.new w t _) rfl (by unfold maxLen;omega)
def J2g (c:Cm)(w:World)(e:Ending)(w':World):Prop:=
 An w w'∧((∃k:Int,e=.returned (.tuple #[.slice none 0 0,.int .i64 k])∧k≠0∧¬(0≤c.count∧c.count≤999∧Hs (Nl c)=⟨[c],Pt.zero,0⟩))∨
  (∃O q d,e=.returned (.tuple #[.slice O q d,.int .i64 0])∧Av w' w.heap.size O q d (Nl c)∧Hs (Nl c)=⟨[c],Pt.zero,0⟩))
def J1g (f:Int)(p:List Int)(n:Int)(l:List Int)(q:Nat):Prop:=
 (n=100∧l=p∧q≤2)∨(n=10∧l=p++(if 100≤f then [48+f/100%10]else [])∧q≤3)∨(n=1∧l=p++((if 100≤f then [48+f/100%10]else [])++(if 10≤f then [48+f/10%10]else []))∧q≤4)∨(n=0∧l=p++Tc f)
theorem mA (h:100≤f)(hl:l=p):l++[48+f/100%10]=p++(if 100≤f then [48+f/100%10]else []):=by rw[if_pos h,hl]
theorem lZ (h:¬100≤f)(hl:l=p):l=p++(if 100≤f then [48+f/100%10]else []):=by rw[if_neg h,hl];simp
theorem sC (h:10≤f)(hl:l=p++(if 100≤f then [48+f/100%10]else [])):l++[48+f/10%10]=p++((if 100≤f then [48+f/100%10]else [])++(if 10≤f then [48+f/10%10]else [])):=by rw[if_pos h,hl,List.append_assoc]
theorem sB (h:¬10≤f)(hl:l=p++(if 100≤f then [48+f/100%10]else [])):l=p++((if 100≤f then [48+f/100%10]else [])++(if 10≤f then [48+f/10%10]else [])):=by rw[if_neg h,hl];simp
theorem wM (h:1≤f)(hl:l=p++((if 100≤f then [48+f/100%10]else [])++(if 10≤f then [48+f/10%10]else []))):l++[48+f%10]=p++Tc f:=by unfold Tc;rw[if_pos h,hl];simp only[List.append_assoc]
theorem wL (h:¬1≤f)(hl:l=p++((if 100≤f then [48+f/100%10]else [])++(if 10≤f then [48+f/10%10]else []))):l=p++Tc f:=by unfold Tc;rw[if_neg h,hl];simp only[List.append_nil]
theorem ne5 {x0 x1 x2 x3 x4 y0 y1 y2 y3 y4:Int}(h:¬(x0=y0∧x1=y1∧x2=y2∧x3=y3∧x4=y4)):
 x0≠y0∨(x0=y0∧x1≠y1)∨(x0=y0∧x1=y1∧x2≠y2)∨(x0=y0∧x1=y1∧x2=y2∧x3≠y3)∨(x0=y0∧x1=y1∧x2=y2∧x3=y3∧x4≠y4):=by omega
theorem jF (w:World):Calls Tryz.prog 23 #[.agg #[.int .i64 f,.int .i64 r,.int .i64 o,.int .i64 v,.int .i64 a]] w (J2g ⟨f,r,o,v,a⟩ w):=by
 obtain⟨i0,hi,hz0,hz1,hz2⟩:=info_parts Cb;by_cases hcb:0≤f∧f≤999
 ·obtain⟨hf0,hf9⟩:=hcb
  have hP:=Aq.new w 62 #[.int .i64 f,.int .i64 r,.int .i64 o,.int .i64 v,.int .i64 a];have hX:=An.alloc w (.cells #[.int .i64 f,.int .i64 r,.int .i64 o,.int .i64 v,.int .i64 a] 62);have HP:=A6 hP;have HX:=A6 hX;clear hP hX;go_enter Tryz.func23,Tryz.ntmps23
  go_upto_if 19 with fail
  go_cut [4] (fun s4 wx=>∃O q d,s4=.slice O q d∧Hid (Av wx (w.heap.size+1) O q d (cV ⟨f,r,o,v,a⟩))∧q≤2∧Hid (Aq wx w.heap.size 62 #[.int .i64 f,.int .i64 r,.int .i64 o,.int .i64 v,.int .i64 a])∧Hid (An w wx)∧w.heap.size+1≤wx.heap.size)
  case first=>
   by_cases h0:r=0
   ·subst h0
    go_wp2_with fail
    go_meet
    exact⟨none,0,0,rfl,A6 (Av.nil _ _),by omega,HP,HX,by simp⟩
   ·have h0b:(r !=0)=true:=by simpa using h0
    have hl:Hid (Bl ((w.alloc (.cells #[.int .i64 f,.int .i64 r,.int .i64 o,.int .i64 v,.int .i64 a] 62)).alloc (.cells #[.int .i64 34,.int .i64 r] 3)) (some ⟨w.heap.size+1,0,none⟩) 2 2 [34,r]):=A6 (by
     have h:=qM (w:=w.alloc (.cells #[.int .i64 f,.int .i64 r,.int .i64 o,.int .i64 v,.int .i64 a] 62)) (t:=3) [34,r] (by simp)
     rwa[World.size_alloc]at h)
    go_wp2_with (at_builtin;refine Ep rfl (.tmp 20) (.tmp 23) 25 rfl w (w.heap.size+1) 3 i0 (.int .i64 0) 1 8 Tryz.underlying25 hi hz0 hz1 hz2 rfl (by decide) none 0 0 [] rfl (Bd.nil _ _ _ _) (some ⟨w.heap.size+1,0,none⟩) 2 2 [.int .i64 34,.int .i64 r] rfl hl.out ?_ ?_ ?_ (HX.out.to_alloc _) (Cd _) ?_ ?_)
    ·intro u hu
     simp at hu;rcases hu with rfl|rfl<;>rfl
    ·unfold maxLen;omega
    ·omega
    ·simp
    ·intro A2 c2 w2 k1 k2 k3 k4
     have K1:Hid (Av w2 (w.heap.size+1) A2 2 c2 (cV ⟨f,r,o,v,a⟩)):=A6 (by unfold cV;rw[if_neg h0];exact k1)
     have K2:=A6 ((HP.out.ext (An.alloc _ _)).grown k2 (by simp[Value.ownBlock]))
     have K4:=A6 k4;have hz:=k4.hsize;have hz2:w.heap.size+1≤w2.heap.size:=K2.out.lt;clear k1 k2 k3 k4 hl h0b;go_wp2_with fail
     go_meet
     exact⟨A2,2,c2,rfl,K1,by omega,K2,K4,hz2⟩
  case rest=>
   obtain⟨O,q,d,rfl,Hown,hq,Hb,He,hle⟩:=hcut;clear HP HX;have pc:=Hb.out.cell 0;simp only[Ah,Af]at pc;go_wp2_with fail
   go_loopw [4,5] (fun s4 s5 wx=>∃(n:Int) (l:List Int) (O:Option Addr) (q d:Nat),s5=.int .i64 n∧s4=.slice O q d∧q≤5∧J1g f (cV ⟨f,r,o,v,a⟩) n l q∧Hid (Av wx (w.heap.size+1) O q d l)∧Hid (Aq wx w.heap.size 62 #[.int .i64 f,.int .i64 r,.int .i64 o,.int .i64 v,.int .i64 a])∧Hid (An w wx)∧w.heap.size+1≤wx.heap.size) (fun _ s5 _=>(intOf s5).toNat)
   case atStart=>exact⟨100,_,O,q,d,rfl,rfl,by omega,.inl ⟨rfl,rfl,hq⟩,Hown,Hb,He,hle⟩
   case round=>
    clear Hown hq Hb He hle pc;obtain⟨n,l,O,q,d,rfl,rfl,hq,hst,Hown,Hb,He,hle⟩:=hrel;have pc:=Hb.out.cell 0;simp only[Ah,Af]at pc;rcases hst with⟨rfl,hl,hq2⟩|⟨rfl,hl,hq2⟩|⟨rfl,hl,hq2⟩|⟨rfl,hl⟩
    ·have HL:=A6 hl
     clear hl;by_cases hn:100≤f
     ·have N0:=trivial;exact K46
     ·go_wp2_with fail
      go_roundw
      case rel=>exact⟨10,_,O,q,d,rfl,rfl,by omega,.inr (.inl ⟨rfl,lZ hn HL.out,by omega⟩),Hown,Hb,He,hle⟩
      case measure=>simp[intOf]
    ·have HL:=A6 hl
     clear hl;by_cases hn:10≤f
     ·have N1:=trivial;exact K46
     ·go_wp2_with fail
      go_roundw
      case rel=>exact⟨1,_,O,q,d,rfl,rfl,by omega,.inr (.inr (.inl ⟨rfl,sB hn HL.out,by omega⟩)),Hown,Hb,He,hle⟩
      case measure=>simp[intOf]
    ·have HL:=A6 hl
     clear hl;by_cases hn:1≤f
     ·have N2:=trivial;exact K46
     ·go_wp2_with fail
      go_roundw
      case rel=>exact⟨0,_,O,q,d,rfl,rfl,by omega,.inr (.inr (.inr ⟨rfl,wL hn HL.out⟩)),Hown,Hb,He,hle⟩
      case measure=>simp[intOf]
    ·have Hl:Hid (l=cV ⟨f,r,o,v,a⟩++Tc f):=A6 hl
     clear hl;have pc2:=Hb.out.cell 2;simp only[Ah,Af,List.getElem?_cons_succ]at pc2;go_upto_if 44 with fail
     go_cut [4] (fun s4 wx=>∃(O:Option Addr) (q d:Nat),s4=.slice O q d∧Hid (Av wx (w.heap.size+1) O q d (l++Zq ⟨f,r,o,v,a⟩))∧q≤6∧Hid (Aq wx w.heap.size 62 #[.int .i64 f,.int .i64 r,.int .i64 o,.int .i64 v,.int .i64 a])∧Hid (An w wx)∧w.heap.size+1≤wx.heap.size)
     case first=>
      by_cases h0:o=0
      ·subst h0
       go_wp2_with fail
       go_meet
       exact⟨O,q,d,rfl,A6 (by unfold Zq;rw[if_pos rfl,List.append_nil];exact Hown.out),by omega,Hb,He,hle⟩
      ·have h0b:(o !=0)=true:=by simpa using h0
       have hown:=Hown.out;have he:=He.out;go_wp2_with (at_builtin;refine C6 rfl (.tmp 45) (.tmp 48) 25 rfl w (w.heap.size+1) 3 i0 (.int .i64 0) 1 8 Tryz.underlying25 hi hz0 hz1 hz2 rfl (by decide) O q d _ rfl hown #[.int .i64 (o)] rfl ?_ rfl ?_ ?_ he (Cd _) hle ?_)
       ·rfl
       ·unfold maxLen;omega
       ·omega
       ·intro A2 c2 w2 k1 k2 k3 k4
        have K1:Hid (Av w2 (w.heap.size+1) A2 (q+1) c2 (l++Zq ⟨f,r,o,v,a⟩)):=A6 (by unfold Zq;rw[if_neg h0];simpa[Av]using k1)
        have K2:=A6 (Hb.out.grown k2 (fun e=>by have:=(Bd.blk Hown.out _ e.symm).1;omega))
        have K4:=A6 k4;have hz2:w.heap.size+1≤w2.heap.size:=K2.out.lt;clear k1 k2 k3 k4 hown he pc pc2 Hown Hb He hle;go_wp2_with fail
        go_meet
        exact⟨A2,q+1,c2,rfl,K1,by omega,K2,K4,hz2⟩
     case rest=>
      clear pc pc2 Hown hq Hb He hle;obtain⟨O,q,d,rfl,Hown,hq,Hb,He,hle⟩:=hcut;obtain⟨⟨pc0,pc1,pc2,pc3,pc4⟩,_⟩:=Hb.out.five;have hown:=Hown.out;have he:=He.out;go_wp2_with (at_builtin;refine C6 rfl (.tmp 50) (.tmp 53) 25 rfl w (w.heap.size+1) 3 i0 (.int .i64 0) 1 8 Tryz.underlying25 hi hz0 hz1 hz2 rfl (by decide) O q d _ rfl hown #[.int .i64 (v)] rfl ?_ rfl ?_ ?_ he (Cd _) hle ?_)
      ·rfl
      ·unfold maxLen;omega
      ·omega
      ·intro A2 c2 w2 k1 k2 k3 k4
       have K1:Hid (Av w2 (w.heap.size+1) A2 (q+1) c2 (l++Zq ⟨f,r,o,v,a⟩++[v])):=A6 (by simpa[Av]using k1)
       have K2:=A6 (Hb.out.grown k2 (fun e=>by have:=(Bd.blk Hown.out _ e.symm).1;omega))
       have K4:=A6 k4;have hz2:w.heap.size+1≤w2.heap.size:=K2.out.lt;clear k1 k2 k3 k4 hown he pc0 pc1 pc2 pc3 pc4 Hown Hb He hle;obtain⟨⟨pc0,pc1,pc2,pc3,pc4⟩,_⟩:=K2.out.five;obtain⟨bw,hbw⟩:∃b,Zw ⟨f,r,o,v,a⟩=b:=⟨_,rfl⟩;have HW:=A6 (oQ w2 hbw);have Hbw:=A6 hbw;clear hbw;go_wp2_with fail
       refine(HW.out).mono ?_
       rintro e w3 ⟨rfl,he3⟩;have Hown:Hid (Av w3 (w.heap.size+1) A2 (q+1) c2 (l++Zq ⟨f,r,o,v,a⟩++[v])):=A6 (K1.out.ext he3);have Hb:=A6 (Aq.ext K2.out he3);have He:=A6 (K4.out.trans he3);have hle:w.heap.size+1≤w3.heap.size:=Nat.le_trans hz2 he3.hsize;clear pc0 pc1 pc2 pc3 pc4 HW K1 K2 K4 hz2 he3;obtain⟨⟨pc0,pc1,pc2,pc3,pc4⟩,_⟩:=Hb.out.five;generalize A2=O at*;generalize c2=d at*;go_upto_if 56 with fail
       go_cut [4] (fun s4 wx=>∃(O:Option Addr) (q d:Nat),s4=.slice O q d∧Hid (Av wx (w.heap.size+1) O q d (Nl ⟨f,r,o,v,a⟩))∧Hid (Aq wx w.heap.size 62 #[.int .i64 f,.int .i64 r,.int .i64 o,.int .i64 v,.int .i64 a])∧Hid (An w wx)∧w.heap.size+1≤wx.heap.size)
       case first=>
        cases bw with
        |false=>
         go_wp2_with fail
         go_meet
         exact⟨O,q+1,d,rfl,A6 (by unfold Nl tS;rw[Hbw.out,if_neg (by simp)];have:=Hown.out;rw[Hl.out]at this;simpa using this),Hb,He,hle⟩
        |true=>
         have hown:=Hown.out;have he:=He.out;go_wp2_with (at_builtin;refine C6 rfl (.tmp 57) (.tmp 60) 25 rfl w (w.heap.size+1) 3 i0 (.int .i64 0) 1 8 Tryz.underlying25 hi hz0 hz1 hz2 rfl (by decide) O (q+1) d _ rfl hown #[.int .i64 (a)] rfl ?_ rfl ?_ ?_ he (Cd _) hle ?_)
         ·rfl
         ·unfold maxLen;omega
         ·omega
         ·intro A2 c2 w2 k1 k2 k3 k4
          have K1:Hid (Av w2 (w.heap.size+1) A2 (q+1+1) c2 (Nl ⟨f,r,o,v,a⟩)):=A6 (by unfold Nl tS;rw[Hbw.out,if_pos rfl];rw[Hl.out]at k1;simpa[Av]using k1)
          have K2:=A6 (Hb.out.grown k2 (fun e=>by have:=(Bd.blk Hown.out _ e.symm).1;omega))
          have K4:=A6 k4;have hz2:w.heap.size+1≤w2.heap.size:=K2.out.lt;clear k1 k2 k3 k4 hown he pc0 pc1 pc2 pc3 pc4 Hown Hb He hle;go_wp2_with fail
          go_meet
          exact⟨A2,q+1+1,c2,rfl,K1,K2,K4,hz2⟩
       case rest=>
        clear pc0 pc1 pc2 pc3 pc4 Hown Hb He hle Hl Hbw hq;obtain⟨O,q,d,rfl,Hown,Hb,He,hle⟩:=hcut;have hq:q≤8:=by have h1:=Hown.out.ints.len;have h2:=aY ⟨f,r,o,v,a⟩;omega
        have HAl:=A6 (vN Hown.out.ints (by omega))
        rcases hA:Hs (Nl ⟨f,r,o,v,a⟩)with⟨out,⟨p0,p1,p2,p3,p4⟩,wr⟩;have HA:=A6 hA;rw[hA]at HAl;unfold Ji at HAl;simp only at HAl;clear hA;go_wp2_with fail
        refine HAl.out.mono ?_
        rintro e w4 ⟨L,z,y,rfl,rL,he4⟩;have hl:out.length=z:=by have:=Rd.len rL;rw[aQ]at this;omega
        have HL:Hid (yB w4 L z y out):=A6 rL;have Hown4:=A6 (Hown.out.ext he4);have Hb4:=A6 (Hb.out.ext he4);have He4:=A6 (He.out.trans he4);have hg:=Hb4.out.lt;clear rL he4 HAl Hown Hb He hle;have ea:=An.alloc w4 (.cells #[.int .i64 p0,.int .i64 p1,.int .i64 p2,.int .i64 p3,.int .i64 p4] 34);have ht7:=Aq.new w4 34 #[.int .i64 p0,.int .i64 p1,.int .i64 p2,.int .i64 p3,.int .i64 p4];obtain⟨⟨c0,c1,c2,c3,c4⟩,_⟩:=(Hb4.out.ext ea).five;obtain⟨⟨e0,e1,e2,e3,e4⟩,_⟩:=ht7.five;by_cases hz1':z=1
        ·subst hz1'
         have HL2:yB (w4.alloc (.cells #[.int .i64 p0,.int .i64 p1,.int .i64 p2,.int .i64 p3,.int .i64 p4] 34)) L 1 y out:=Rd.ext HL.out ea;obtain⟨ad,x,rfl,hx,a0,a1,a2,a3,a4⟩:=HL2.at_ (k:=0) (by omega)
         obtain rfl:out=[x]:=by
          cases out with
          |nil=>simp at hl
          |cons x' out=>cases out with
           |nil=>simp at hx;rw[hx]
           |cons _ _=>simp at hl
         simp only[Nat.zero_mul,Du]at a0 a1 a2 a3 a4;obtain⟨x0,x1,x2,x3,x4⟩:=x;simp only at a0 a1 a2 a3 a4;clear hl hx HL2 ea ht7;by_cases hxc:x0=f∧x1=r∧x2=o∧x3=v∧x4=a
         ·obtain⟨rfl,rfl,rfl,rfl,rfl⟩:=hxc
          by_cases hp0:p0=0∧p1=0∧p2=0∧p3=0∧p4=0
          ·obtain⟨rfl,rfl,rfl,rfl,rfl⟩:=hp0
           by_cases hw0:wr=0
           ·subst hw0
            go_upto_region 17 with fail
            go_quiet (fail)
            go_wp2_with fail
            go_ret2
            exact⟨(He4.out.trans (An.alloc _ _)).to_drewN _,.inr ⟨O,q,d,rfl,Bd.lower (Hown4.out.ext ((An.alloc _ _).to_drewN _)) (Cd _),HA.out⟩⟩
           ·have hw1:((wr:Int) !=0)=true:=by simp;omega
            have hw2:((wr:Int)==0)=false:=by simp;omega
            have hw3:0<wr:=by omega
            go_upto_region 17 with fail
            go_quiet (fail)
            go_wp2_with fail
            go_ret2
            exact⟨(He4.out.trans (An.alloc _ _)).to_drewN _,.inl ⟨4,rfl,by omega,by rw[HA.out];rintro⟨_,_,h⟩;injection h with _ _ h;exact hw0 h⟩⟩
          ·have HNN:Hid (¬(0≤x0∧x0≤999∧Hs (Nl ⟨x0,x1,x2,x3,x4⟩)=⟨[⟨x0,x1,x2,x3,x4⟩],Pt.zero,0⟩)):=A6 (by rw[HA.out];rintro⟨_,_,h⟩;injection h with _ h _;unfold Pt.zero at h;injection h with h0 h1 h2 h3 h4;exact hp0 ⟨h0,h1,h2,h3,h4⟩)
           rcases ne5 hp0 with hne|⟨rfl,hne⟩|⟨rfl,rfl,hne⟩|⟨rfl,rfl,rfl,hne⟩|⟨rfl,rfl,rfl,rfl,hne⟩
           all_goals clear hp0
           ·have hn:¬p0=0:=hne
            have hnb:(p0==0)=false:=by simpa using hne
            exact I4
           ·have hn:¬p1=0:=hne
            have hnb:(p1==0)=false:=by simpa using hne
            exact I4
           ·have hn:¬p2=0:=hne
            have hnb:(p2==0)=false:=by simpa using hne
            exact I4
           ·have hn:¬p3=0:=hne
            have hnb:(p3==0)=false:=by simpa using hne
            exact I4
           ·have hn:¬p4=0:=hne
            have hnb:(p4==0)=false:=by simpa using hne
            exact I4
         ·have HNN:Hid (¬(0≤f∧f≤999∧Hs (Nl ⟨f,r,o,v,a⟩)=⟨[⟨f,r,o,v,a⟩],Pt.zero,0⟩)):=A6 (by rw[HA.out];rintro⟨_,_,h⟩;injection h with h _ _;injection h with h _;injection h with h0 h1 h2 h3 h4;exact hxc ⟨h0,h1,h2,h3,h4⟩)
          rcases ne5 hxc with hne|⟨rfl,hne⟩|⟨rfl,rfl,hne⟩|⟨rfl,rfl,rfl,hne⟩|⟨rfl,rfl,rfl,rfl,hne⟩
          all_goals clear hxc
          ·have hn:¬x0=f:=hne
           have hnb:(x0==f)=false:=by simpa using hne
           exact I4
          ·have hn:¬x1=r:=hne
           have hnb:(x1==r)=false:=by simpa using hne
           exact I4
          ·have hn:¬x2=o:=hne
           have hnb:(x2==o)=false:=by simpa using hne
           exact I4
          ·have hn:¬x3=v:=hne
           have hnb:(x3==v)=false:=by simpa using hne
           exact I4
          ·have hn:¬x4=a:=hne
           have hnb:(x4==a)=false:=by simpa using hne
           exact I4
        ·have hzb:((z:Int) !=1)=true:=by simp;omega
         have hzc:((z:Int)==1)=false:=by simp;omega
         clear ea ht7;go_upto_region 17 with fail
         go_quiet (fail)
         go_wp2_with fail
         go_ret2
         exact⟨(He4.out.trans (An.alloc _ _)).to_drewN _,.inl ⟨4,rfl,by omega,by rw[HA.out];rintro⟨_,_,h⟩;injection h with h _ _;rw[h]at hl;simp at hl;omega⟩⟩
 ·have hbad:f<0∨999<f:=by omega
  clear hcb;have HN:Hid (¬(0≤f∧f≤999∧Hs (Nl ⟨f,r,o,v,a⟩)=⟨[⟨f,r,o,v,a⟩],Pt.zero,0⟩)):=A6 (by rintro⟨h1,h2,_⟩;omega)
  rcases hbad with h|h
  ·exact I55
  ·have h':¬f<0:=by omega
   exact I55
end
