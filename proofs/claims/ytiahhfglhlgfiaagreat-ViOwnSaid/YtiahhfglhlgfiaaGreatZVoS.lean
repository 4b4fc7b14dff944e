/-
  Part ZVoS.
-/
import Derived.Test.YtiahhfglhlgfiaaGreatZVoA
set_option maxRecDepth 100000
set_option maxHeartbeats 16000000
set_option linter.unusedVariables false
set_option linter.unusedSimpArgs false
namespace Go.Proofs.YtiahhfglhlgfiaaGreat
open Go.RowKit
open Value renaming int→Aq,slice→Aj
theorem Ju {A:Option Addr}{n c b:Nat}{l:List Int}{x:Int}{w:World}(h:Av w b A n c l):
 Calls Tryz.prog 6 #[.slice A n c,.int .i64 x] w fun e w'=>(∃v,e=.returned v)∧Dv (fun k=>(Aj A n c).ownBlock=some k) w w':=by
 have hcm:=h.ints.nmax;have hnc:=h.ints.ncap;unfold maxLen at hcm;have HH:=A4 h;rcases h.2 with⟨hv,rfl⟩|⟨g,cap,cur,hv,hb,hg,hn,hcap,hcur,htake⟩
 ·injection hv with hA _ hc
  subst hA;subst hc;clear h hnc;go_enter Tryz.func6,Tryz.ntmps6
  go_wp2_with fail
  go_loopw [11] (fun s wx=>s=.int .i64 0∧wx=w) (fun _ _=>0)
  case atStart=>exact⟨rfl,rfl⟩
  case round=>
   obtain⟨rfl,rfl⟩:=hrel;go_wp2_with fail
   go_end0
   exact⟨⟨_,rfl⟩,Dv.refl _ _⟩
 ·injection hv with hA _ hc
  subst hA;subst hc;have hcl:cur.size=c:=by omega
  clear h htake hn hcap hcur;have hb0:Hid (An w g 3 cur):=A4 hg;have hgr:Hid (w.grownBy w (some g)):=A4 (World.grownBy.refl _ _);have hcz:=A4 hcl;have hx0:Hid (∀j,j<0→cur[j]? = some (Aq .i64 x)):=A4 fun j hj=>absurd hj (Nat.not_lt_zero j)
  clear hg hcl;go_enter Tryz.func6,Tryz.ntmps6
  go_wp2_with fail
  go_loopw [11] (fun s wx=>∃(k:Nat) (cs:Array Value),k≤c∧s=.int .i64 k∧Hid (An wx g 3 cs)∧Hid (cs.size=c)∧Hid (w.grownBy wx (some g))∧Hid (∀j,j<k→cs[j]? = some (Aq .i64 x))) (fun s _=>c-(intOf s).toNat)
  case atStart=>exact⟨0,cur,by omega,rfl,hb0,hcz,hgr,hx0⟩
  case round=>
   clear hb0 hcz hgr hx0;obtain⟨k,cs,hk,rfl,Hb,Hs,Hg,Hx⟩:=hrel;by_cases hlt:k<c
   ·have hcell:wr.cell? ⟨g,k,none⟩=some (cs[k]'(by rw[Hs.out];exact hlt)):=by rw[Hb.out.cell k,Array.getElem?_eq_getElem]
    have hfr:=Hb.out.frozen k;go_wp2_with fail
    go_roundw
    case rel=>
     refine⟨k+1,cs.setIfInBounds k (.int .i64 x),by omega,by go_num,A4 (Hb.out.set_ k _),A4 (by simpa using Hs.out),A4 ?_,A4 fun j hj=>?_⟩
     ·exact V1 Hg.out (aA wr ⟨g,k,none⟩ (.int .i64 x))
     ·by_cases e:j=k
      ·subst e
       rw[Array.getElem?_setIfInBounds_self_of_lt (by rw[Hs.out];exact hlt)]
      ·rw[Array.getElem?_setIfInBounds_ne (fun h=>e h.symm)]
       exact Hx.out j (by omega)
    case measure=>simp[intOf];omega
   ·obtain rfl:k=c:=by omega
    have hend:Dv (fun q=>(Aj (some ⟨g,0,none⟩) n k).ownBlock=some q) w wr:=cF (x:=x) HH.out Hg.out fun q e=>by
     have e:some g=some q:=e;injection e with e;subst e;exact⟨cs,Hb.out,Hs.out,Hx.out⟩
    have HE:=A4 hend;clear Hb Hs Hg Hx hend;go_wp2_with fail
    go_end0
    exact⟨⟨_,rfl⟩,HE.out⟩
