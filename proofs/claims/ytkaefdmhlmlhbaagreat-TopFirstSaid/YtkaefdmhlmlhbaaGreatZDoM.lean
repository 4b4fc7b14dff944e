/-
  Part ZDoM.
-/
import Derived.Test.YtkaefdmhlmlhbaaGreatZDoP
import Derived.Test.YtkaefdmhlmlhbaaGreatZMotS
set_option maxRecDepth 100000
set_option maxHeartbeats 16000000
set_option linter.unusedVariables false
set_option linter.unusedSimpArgs false
namespace Go.Proofs.YtkaefdmhlmlhbaaGreat
open Go.RowKit
open _root_.Go.Proofs.Tryz
open AllReadyH renaming cons→Ai,nil→Am
open _root_.Nat renaming le_refl→Aj,lt_succ_self→Bt,zero_le→B8
section
variable {rl:Nat→List Int}{l m:List Int}{k1 k2 k3 k4 k5 fk fa at_ md o v k key cnt arg:Int}{PPost:World→Array Value→Prop}{cs rs:Array Value}{A:Option Addr}{n a g:Nat}{e:List Gp}{w v0:World}{ar:Bool}
def Sk (fk fa v arg mk ma zk za er:Int):Prop:=(er=0∧J3 fk fa v arg=some (mk,ma,zk,za))∨(er=5∧J3 fk fa v arg=none)
theorem bL {n:Nat}{op:Bool}{e:Ending}(h:Ti l n k key cnt arg op e):∃(x:Int) (i:Bool) (er:Int),e=.returned (.tuple #[x,i,er]):=by
 rcases h with⟨_,o,_,rfl⟩|⟨_,er,_,rfl⟩
 ·rcases o with _|⟨a,i⟩
  ·exact⟨0,false,5,rfl⟩
  ·exact⟨a,i,0,rfl⟩
 ·exact⟨0,false,er,rfl⟩
theorem V4 {n:Nat}{e:Ending}(h:Lj l n k key cnt arg e):∃(x y er:Int),e=.returned (.tuple #[x,y,er]):=by
 rcases iB h with⟨er,_,rfl⟩|⟨lo,hi,_,_,_,_,rfl⟩
 ·exact⟨0,0,er,rfl⟩
 ·exact⟨lo,hi,0,rfl⟩
def mC (l:List Int)(n a:Nat)(key cnt arg:Int)(x:Int):Prop:=Yk n a key cnt∧∃(y:Nat) (i:Bool),Yl l a key arg (max 1 cnt).toNat false (some (y,i))∧y≤n-1∧x=y
theorem oV {key cnt arg x:Int}{i:Bool}{er:Int}(hl:l.length=n)(h:Ti l n a key cnt arg false (.returned (.tuple #[x,i,er]))):
 (er=0∧mC l n a key cnt arg x)∨(er≠0∧¬(Yk n a key cnt∧¬Yl l a key arg (max 1 cnt).toNat false none)):=by
 rcases h with⟨cw,o,hR,he⟩|⟨du,t9,h1,he⟩
 ·rcases o with _|⟨y,j⟩
  ·rw[Ze]at he
   injection he with he;injection he with he;simp at he;obtain⟨_,_,rfl⟩:=he;exact .inr ⟨by decide,fun h=>h.2 hR⟩
  ·rw[Zd]at he
   injection he with he;injection he with he;simp at he;obtain⟨rfl,rfl,rfl⟩:=he;have FE:=cw;obtain⟨_,b1,b2,_⟩:=cw;have:=rU (l:=l) (k:=a) (by rw[hl];omega) (by omega) hR rfl
   rw[hl]at this;exact .inl ⟨rfl,FE,y,i,hR,this.2.1 rfl,rfl⟩
 ·injection he with he;injection he with he
  simp at he;obtain⟨_,_,rfl⟩:=he;exact .inr ⟨by simpa using h1,fun h=>du h.1⟩
def Ko (l:List Int)(n a:Nat)(key cnt arg:Int)(f t:Nat):Prop:=Yk n a key cnt∧∃(x:Nat) (i:Bool),Yl l a key arg (max 1 cnt).toNat true (some (x,i))∧x≤n∧(i=true→x<n)∧f=min a x∧t=max a x+(if i=true then 1 else 0)
theorem Ko.bd {key cnt arg:Int}{f t:Nat}(h:Ko l n a key cnt arg f t)(ha:a≤n-1):f≤a∧a≤t∧f≤t∧t≤n:=by
 obtain⟨⟨_,_,_,_⟩,x,i,_,h1,h2,rfl,rfl⟩:=h;cases i
 ·simp;omega
 ·have:=h2 rfl
  simp;omega
theorem bI {key cnt arg x y er:Int}(h:Lj l n a key cnt arg (.returned (.tuple #[x,y,er]))):
 (er=0∧∃f t:Nat,x=f∧y=t∧Ko l n a key cnt arg f t)∨(er≠0∧¬(Yk n a key cnt∧¬Yl l a key arg (max 1 cnt).toNat true none)):=by
 rcases h with⟨t9,h1,he,h2⟩|⟨cw,z,i,hR,hz,hi,lo,hi',h1,h2,he⟩
 ·injection he with he;injection he with he
  simp at he;obtain⟨_,_,rfl⟩:=he;exact .inr ⟨by simpa using h1,fun h=>h.2 (h2 h.1)⟩
 ·injection he with he;injection he with he
  simp at he;obtain⟨rfl,rfl,rfl⟩:=he;refine .inl ⟨rfl,min a z,max a z+(if i=true then 1 else 0),?_,?_,cw,z,i,hR,hz,hi,rfl,rfl⟩
  ·rw[h1];omega
  ·rw[h2];split<;>omega
theorem Ek.setFind {b:Nat}(h:Ek w b cs m at_ md fk fa rl e)(zk za:Int):Ek w b (L0 cs 63 #[zk,za]) m at_ md zk za rl e:=by
 have hz:63+(#[.int .i64 zk,.int .i64 za]:Array Value).size≤cs.size:=by rw[h.size];exact(by decide:65≤67)
 have hs:(#[.int .i64 zk,.int .i64 za]:Array Value).size=2:=rfl;exact {
  size:=by rw[Q0 hz];exact h.size
  text:=by rw[D6 hz,if_pos (by omega)];exact h.text
  oat:=by rw[D6 hz,if_pos (by omega)];exact h.oat
  regs:=fun j hj=>by rw[D6 hz,if_pos (by omega)];exact h.regs j hj
  c63:=by rw[D6 hz,if_neg (by omega),if_pos (by rw[hs];omega)];rfl
  c64:=by rw[D6 hz,if_neg (by omega),if_pos (by rw[hs];omega)];rfl
  c65:=by rw[D6 hz,if_neg (by omega),if_neg (by rw[hs];omega)];exact h.c65
  edit:=by rw[D6 hz,if_neg (by omega),if_neg (by rw[hs];omega)];exact h.edit
  far:=fun B q d dx g' cr=>by
   rw[D6 hz,if_pos (by omega)]at dx
   obtain⟨h1,v,h2,h3⟩:=h.far B q d dx g' cr;refine⟨fun j hj v hv=>?_,v,by rw[D6 hz,if_neg (by omega),if_neg (by rw[hs];omega)];exact h2,h3⟩
   rw[D6 hz,if_pos (by omega)]at hv
   exact h1 j hj v hv }
theorem Ds.setFind {w0 w:World}{cs0 cs:Array Value}(h:Ds w0 g cs0 w cs m at_ md fk fa rl e)(zk za:Int):
 Ds w0 g cs0 (w.setRow g (L0 cs 63 #[zk,za])) (L0 cs 63 #[zk,za]) m at_ md zk za rl e:=
 ⟨Aq.setRow h.blk _,(h.out.grown (Fq w g _) (Nat.lt_succ_self g)).setFind zk za,fun k hk=>by rw[D6 (by rw[h.out.size];exact(by decide:65≤67)),if_pos (by omega)];exact h.same k hk,Da h.grown (Fq w g _)⟩
def Pv (l:List Int)(n a:Nat)(rl:Nat→List Int)(k1 k2 k3 k4 k5 fk fa:Int):Prop:=
 ∃mk ma zk za,J3 fk fa k4 k5=some (mk,ma,zk,za)∧Yk n a mk k1∧¬Yl l a mk ma (max 1 k1).toNat (decide (k3≠0)) none∧(k3≠0→∀f t,Ko l n a mk k1 ma f t→Ye l rl k2 k3 f t)
def Ku (g:Nat)(l:List Int)(n a:Nat)(rl:Nat→List Int)(k1 k2 k3 k4 k5 fk fa:Int)(w:World)(cs:Array Value):Prop:=
 ∃mk ma zk za,J3 fk fa k4 k5=some (mk,ma,zk,za)∧
 (
  (k3=0∧∃x,mC l n a mk k1 ma x∧Ek w (g+1) cs l x 0 zk za rl [])∨
  (k3≠0∧∃f t m at_ md co e,Ko l n a mk k1 ma f t∧Ek w (g+1) cs m at_ md zk za co e∧Lu l a rl k2 k3 f t false m at_ md co e))
theorem zM {g n c a:Nat}(h:Ft v0 w g cs A n c a rs rl k1 k2 k3 k4 k5 fk fa l)(ve:k3=0∨k3=100∨k3=99∨k3=121):
 Calls prog 72 #[.pointer (some ⟨g,0,none⟩)] w (Cv g w (Pv l n a rl k1 k2 k3 k4 k5 fk fa) (Ku g l n a rl k1 k2 k3 k4 k5 fk fa)):=by
 obtain⟨h0,h1,fc,qg,mh,pv,df,lh⟩:=h.cells;have HB:=A6 h.blk;have KS:Hid (∀j v,(#[.int .i64 fk,.int .i64 fa]:Array Value)[j]? = some v→cs[63+j]? = some v):=A6 (by
  have h3:=h.mid.out;intro j v hj
  match j,hj with
  |0,hj=>rw[←hj];exact h3.c63
  |1,hj=>rw[←hj];exact h3.c64
  |j+2,hj=>cases hj)
 have KT:Hid (∀j v,(#[.int .i64 k1,.int .i64 k2,.int .i64 k3,.int .i64 k4,.int .i64 k5]:Array Value)[j]? = some v→cs[29+j]? = some v):=A6 (by
  intro j v hj
  match j,hj with
  |0,hj=>rw[←hj];exact qg
  |1,hj=>rw[←hj];exact mh
  |2,hj=>rw[←hj];exact pv
  |3,hj=>rw[←hj];exact df
  |4,hj=>rw[←hj];exact lh
  |j+5,hj=>cases hj)
 have HI:=A6 h;have HC:Hid (cs[0]? = some (.slice A n c)∧cs[1]? = some (.int .i64 (a:Int))∧cs[31]? = some (.int .i64 k3)):=A6 ⟨h0,h1,pv⟩;clear h h0 h1 fc qg mh pv df lh;go_enter func72,ntmps72
 go_upto_region 1 with fail
 go_cut [3,4,5] (fun v3 v4 v5 wx=>∃p3 p4 mk ma zk za er,v3=.pointer (some ⟨p3,0,none⟩)∧v4=.pointer (some ⟨p4,0,none⟩)∧v5=.int .i64 er∧w.heap.size≤p3∧w.heap.size≤p4∧p3≠p4∧Hid (Aq wx p3 185 #[.int .i64 mk,.int .i64 k1,.int .i64 ma])∧Hid (Aq wx p4 36 #[.int .i64 zk,.int .i64 za])∧Hid (Sk fk fa k4 k5 mk ma zk za er)∧Hid (An w wx))
 case first=>
  refine wp_region_held_drew (S:=fun w'=>Aq w' g 118 cs) (by kernel_rfl) (HB.out.ext (An.drew w)) (fun aa=>?_)
  refine Bf (i:=0) (v:=some g) rfl aa ?_
  refine Bf (i:=1) (v:=some g) rfl aa ?_
  refine Bf (i:=2) (v:=(.pointer (some ⟨g,34,none⟩))) rfl aa ?_
  refine Bf (i:=3) (v:=(.pointer (some ⟨g,63,none⟩))) rfl aa ?_
  refine Ga (i:=4) (v:=(.agg #[fk,fa])) rfl (fun w ag=>by exact Ji rfl 36 (.tmp 16) rfl g 63 rfl 118 cs #[fk,fa] (0,0) _ ag KS.out underlying36 rfl Dz) aa ?_
  refine Bf (i:=5) (v:=some g) rfl aa ?_
  refine Bf (i:=6) (v:=some g) rfl aa ?_
  refine Bf (i:=7) (v:=(.pointer (some ⟨g,29,none⟩))) rfl aa ?_
  refine Ga (i:=8) (v:=(.agg #[k1,k2,k3,k4,k5])) rfl (fun w ag=>by exact Ji rfl 62 (.tmp 20) rfl g 29 rfl 118 cs #[k1,k2,k3,k4,k5] (0,0) _ ag KT.out underlying62 rfl (by kernel_rfl)) aa ?_
  have hx:An w w.drew:=An.drew w;have hb:=HB.out.ext hx;have tv:=hx.hsize;generalize w.drew=W0 at*;refine wpAnyH_ready (rs:=[9,14,15]) (by kernel_rfl) (by simp) ?_
  refine Ai rfl (fun K hK=>?_) (Ai rfl (fun K hK=>?_) (Ai rfl (fun K hK=>?_) (Am)))
  ·have N0:=trivial;exact K2
  ·have N1:=trivial;exact K2
  ·have N2:=trivial;exact K2
 case rest=>
  obtain⟨p3,p4,mk,ma,zk,za,er,rfl,rfl,rfl,sb,xc,ai,H3,H4,HF,HX⟩:=hcut;have HG:Hid (g<w.heap.size):=A6 HB.out.lt;have HM:=A6 (HI.out.mid.ext HX.out);have ze:=A6 (HI.out.wext HX.out);have jh:=A6 HI.out.line.len;clear KS KT HB;by_cases ey:er=0
  case neg=>
   have AD:Hid (Cv g w (Pv l n a rl k1 k2 k3 k4 k5 fk fa) (Ku g l n a rl k1 k2 k3 k4 k5 fk fa) (.returned (.int .i64 er)) wc):=A6 (HM.out.fail ey (by
    rintro⟨QV,QW,IW,IX,h1,_⟩;rcases HF.out with⟨h2,_⟩|⟨_,h2⟩
    ·exact ey h2
    ·rw[h2]at h1;cases h1))
   clear ai sb xc H3 H4 HF HX HM ze;go_wp2_with fail
   go_ret
   exact AD.out
  subst ey;have KU:Hid (J3 fk fa k4 k5=some (mk,ma,zk,za)):=A6 (by
   rcases HF.out with⟨_,h2⟩|⟨h2,_⟩
   ·exact h2
   ·cases h2)
  clear HF;have c0:wc.cell? ⟨g,0,none⟩=some (.slice A n c):=HM.out.cell (by omega) HC.out.1
  have c1:wc.cell? ⟨g,1,none⟩=some (.int .i64 (a:Int)):=HM.out.cell (by omega) HC.out.2.1
  have c31:wc.cell? ⟨g,31,none⟩=some (.int .i64 k3):=HM.out.cell (by omega) HC.out.2.2
  have h3:=H3.out;by_cases hk:k3=0
  ·have N0:=trivial;exact K19
  ·have N1:=trivial;exact K19
def Ph (v:Int):Bool:=v==104||(v==108||(v==48||(v==94||(v==36||(v==124||(v==119||(v==87||(v==98||(v==66||(v==101||(v==69||(v==37||(v==102||(v==70||(v==116||(v==84||(v==59||(v==44))))))))))))))))))
def Gg (o v:Int):Int×Int:=if o=0 then(match Th v with|some p=>p|none=>(0,v))else(o,v)
theorem Tv {v:Int}{p:Int×Int}(h:Th v=some p):p.1=100∨p.1=99∨p.1=121:=by
 unfold Th at h
 repeat' split at h
 all_goals first
  |(injection h with h;subst h;simp;done)
  |cases h
theorem J0v {o v:Int}(h:o=0∨o=100∨o=99∨o=121):(Gg o v).1=0∨(Gg o v).1=100∨(Gg o v).1=99∨(Gg o v).1=121:=by
 unfold Gg;split
 ·split
  ·rename_i h1
   exact .inr (Tv h1)
  ·exact .inl rfl
 ·exact h
def Tn (l:List Int)(n a:Nat)(o v k5:Int)(f t:Nat)(whole:Bool):Prop:=
 (v=o∧f=0∧t=n∧whole=true)∨(v≠o∧(v=105∨v=97)∧whole=false∧qT l a (v==97) k5 f t 0)
def H8 (g:Nat)(l:List Int)(n a:Nat)(rl:Nat→List Int)(k1 k2 o v k5 fk fa:Int)(PPost:World→Array Value→Prop)(w:World)(cs:Array Value):Prop:=
 (Ph v=true∧Ku g l n a rl k1 k2 o v k5 fk fa w cs)∨(Ph v=false∧o=0∧PPost w cs)∨
 (Ph v=false∧o≠0∧∃f t whole m at_ md co e,f≤t∧t≤n∧Tn l n a o v k5 f t whole∧Ek w (g+1) cs m at_ md fk fa co e∧Lu l a rl k2 o f t whole m at_ md co e)
def S5 (l:List Int)(n a:Nat)(rl:Nat→List Int)(k2 o v k5:Int):Prop:=
 (v=o∧Ye l rl k2 o 0 n)∨(v≠o∧(v=105∨v=97)∧∃f t:Nat,qT l a (v==97) k5 f t 0∧Ye l rl k2 o f t)
theorem zE {k:Nat}{ar big:Bool}{x y er x' y' t9:Int}(h:ofW l k ar big x y er)(h':ofW l k ar big x' y' t9):x=x'∧y=y'∧er=t9:=by
 rcases h with⟨h1,h2,h3,h4⟩|⟨h1,h2,h3,h4⟩<;>rcases h' with⟨g1,g2,g3,g4⟩|⟨g1,g2,g3,g4⟩
 ·exact I38
 ·omega
 ·omega
 ·exact I38
theorem zG {k:Nat}{o x y er x' y' t9:Int}(h:ofB l k ar o x y er)(h':ofB l k ar o x' y' t9):x=x'∧y=y'∧er=t9:=by
 rcases h with⟨i,b,h1,h2,h3,h4⟩|⟨h1,h2,h3,h4⟩<;>rcases h' with⟨i',b',g1,g2,g3,g4⟩|⟨g1,g2,g3,g4⟩
 ·obtain⟨rfl,rfl⟩:=oX h1 g1
  exact I38
 ·exact absurd g1 (Zl h1)
 ·exact absurd h1 (Zl g1)
 ·exact I38
theorem zF {k:Nat}{q x y er x' y' t9:Int}(h:ofQ l k ar q x y er)(h':ofQ l k ar q x' y' t9):x=x'∧y=y'∧er=t9:=by
 rcases h with⟨i,b,h1,h2,h3,h4⟩|⟨h1,h2,h3,h4⟩<;>rcases h' with⟨i',b',g1,g2,g3,g4⟩|⟨g1,g2,g3,g4⟩
 ·obtain⟨rfl,rfl⟩:=jE h1 g1
  exact I38
 ·exact absurd g1 (Zm h1)
 ·exact absurd h1 (Zm g1)
 ·exact I38
theorem lB {k:Nat}{key x y er x' y' t9:Int}(h:qT l k ar key x y er)(h':qT l k ar key x' y' t9):x=x'∧y=y'∧er=t9:=by
 rcases h with⟨hk,h⟩|⟨hk,h⟩|⟨hk,h⟩|⟨hk,h⟩|⟨hk,h⟩<;>rcases h' with⟨gk,g⟩|⟨gk,g⟩|⟨gk,g⟩|⟨gk,g⟩|⟨gk,g⟩
 all_goals first
  |exact zE h g
  |exact zF h g
  |exact zG h g
  |(exfalso;omega)
  |(exfalso;unfold Vm at hk;omega)
  |(exfalso;unfold Vm at gk;omega)
  |(unfold Vm at hk gk;omega)
theorem S5.same (h:S5 l n a rl k2 o v k5)(hv:v=o):Ye l rl k2 o 0 n:=by
 rcases h with⟨_,h⟩|⟨h,_⟩
 ·exact h
 ·exact absurd hv h
theorem S5.none (h:S5 l n a rl k2 o v k5)(hv:¬v=o)(hi:¬(v=105∨v=97)):False:=by
 rcases h with⟨h,_⟩|⟨_,h,_⟩
 ·exact hv h
 ·exact hi h
theorem S5.span {B:Bool}{x y er:Int}(h:S5 l n a rl k2 o v k5)(hv:¬v=o)(hB:(v==97)=B)(hR:qT l a B k5 x y er):er=0∧∃f t:Nat,x=f∧y=t∧Ye l rl k2 o f t:=by
 rcases h with⟨h,_⟩|⟨_,_,f,t,h1,h2⟩
 ·exact absurd h hv
 ·rw[hB]at h1
  obtain⟨e1,e2,e3⟩:=lB hR h1;exact⟨e3,f,t,e1,e2,h2⟩
theorem S5.span' {n a f t:Nat}{B:Bool}(h:S5 l n a rl k2 o v k5)(hv:¬v=o)(hB:(v==97)=B)(hR:qT l a B k5 f t 0):Ye l rl k2 o f t:=by
 obtain⟨_,f',t',e1,e2,h2⟩:=h.span hv hB hR;have h3:f=f':=by omega
 have h4:t=t':=by omega
 rw[h3,h4];exact h2
def P8 (l:List Int)(n a:Nat)(rl:Nat→List Int)(k1 k2 o v k5 fk fa:Int)(POk:Prop):Prop:=
 (Ph v=true→Pv l n a rl k1 k2 o v k5 fk fa)∧(Ph v=false→o=0→POk)∧(Ph v=false→o≠0→S5 l n a rl k2 o v k5)
theorem J6d {k:Nat}{key x y:Int}(h:qT l k ar key x y 0):∃f t:Nat,x=f∧y=t∧f≤t∧t≤l.length:=by
 rcases h with⟨_,h⟩|⟨_,h⟩|⟨_,h⟩|⟨_,h⟩|⟨_,_,_,h⟩
 ·rcases h with⟨h1,_,rfl,rfl⟩|⟨_,h,_⟩
  ·obtain⟨a1,a2,a3,a4⟩:=Li (big:=false) h1
   obtain⟨b1,b2,b3⟩:=Yw (big:=false) h1;exact I71
  ·cases h
 ·rcases h with⟨h1,_,rfl,rfl⟩|⟨_,h,_⟩
  ·obtain⟨a1,a2,a3,a4⟩:=Li (big:=true) h1
   obtain⟨b1,b2,b3⟩:=Yw (big:=true) h1;exact I71
  ·cases h
 ·rcases h with⟨f,t,⟨h1,_,_,_,h2⟩,_,rfl,rfl⟩|⟨_,h,_⟩
  ·exact I75
  ·cases h
 ·rcases h with⟨f,t,⟨_,h1,_,h2,_,h3,_⟩,_,rfl,rfl⟩|⟨_,h,_⟩
  ·have ai:f<t:=by
    rcases Q8 h1 with e|⟨m,e1,e2,e3,e4,_⟩<;>omega
   exact I75
  ·cases h
 ·cases h
theorem Cv.from {w wx:World}{Ok J6:Prop}{Post CT:World→Array Value→Prop}{e:Ending}{w':World}(h:Cv g wx Ok Post e w')(hg:w.grownBy wx (some g))(hO:J6→Ok)(hP:∀cs,Post w' cs→CT w' cs):Cv g w J6 CT e w':=by
 obtain⟨er,cs',h1,h2,h3,h4⟩:=h;exact⟨er,cs',h1,Da hg h2,fun h=>h3 (hO h),fun h=>let ⟨a,b,c,d⟩:=h4 h;⟨a,b,c,hP _ d⟩⟩
theorem Ft.setCmd {n c a:Nat}(h:Ft v0 w g cs A n c a rs rl k1 k2 k3 k4 k5 fk fa l)(o v:Int):
 Ft v0 (w.setRow g (L0 cs 29 #[k1,k2,o,v,k5])) g (L0 cs 29 #[k1,k2,o,v,k5]) A n c a rs rl k1 k2 o v k5 fk fa l:=by
 obtain⟨B,d,h1,h2⟩:=h.doer;have hs:(#[.int .i64 k1,.int .i64 k2,.int .i64 o,.int .i64 v,.int .i64 k5]:Array Value).size=5:=rfl;have hz:29+(#[.int .i64 k1,.int .i64 k2,.int .i64 o,.int .i64 v,.int .i64 k5]:Array Value).size≤cs.size:=by rw[h1.size,hs];omega
 have lo:∀k,k<29→(L0 cs 29 #[k1,k2,o,v,k5])[k]? = cs[k]? := fun k hk=>by rw[D6 hz,if_pos hk]
 have hi:∀k,34≤k→(L0 cs 29 #[k1,k2,o,v,k5])[k]? = cs[k]? := fun k hk=>by rw[D6 hz,if_neg (by omega),if_neg (by rw[hs];omega)]
 have mid:∀k,29≤k→k<34→(L0 cs 29 #[k1,k2,o,v,k5])[k]? = (#[.int .i64 k1,.int .i64 k2,.int .i64 o,.int .i64 v,.int .i64 k5]:Array Value)[k-29]? := fun k h1 h2=>by rw[D6 hz,if_neg (by omega),if_pos (by rw[hs];omega)]
 have hg:=Fq w g (L0 cs 29 #[k1,k2,o,v,k5]);exact { h with
  blk:=Aq.setRow h.blk _
  doer:=⟨B,d,{
   size:=by rw[Q0 hz];exact h1.size
   text:=by rw[lo 0 (by omega)];exact h1.text
   at_:=by rw[lo 1 (by omega)];exact h1.at_
   regs:=fun j hj=>by rw[lo _ (by omega)];exact h1.regs j hj
   c29:=by rw[mid 29 (by omega) (by omega)];rfl
   c30:=by rw[mid 30 (by omega) (by omega)];rfl
   c31:=by rw[mid 31 (by omega) (by omega)];rfl
   c32:=by rw[mid 32 (by omega) (by omega)];rfl
   c33:=by rw[mid 33 (by omega) (by omega)];rfl
   out:=by rw[hi 34 (by omega)];exact h1.out
   oat:=by rw[hi 35 (by omega)];exact h1.oat
   oregs:=fun j hj=>let ⟨u,h3,h4⟩:=h1.oregs j hj;⟨u,by rw[hi _ (by omega)];exact h3,h4.grown hg (Bt g)⟩
   far:=fun j hj u hu=>h1.far j hj u (by rw[hi _ (by omega)]at hu;exact hu)
   c63:=by rw[hi 63 (by omega)];exact h1.c63
   c64:=by rw[hi 64 (by omega)];exact h1.c64
   c65:=by rw[hi 65 (by omega)];exact h1.c65
   c66:=by rw[hi 66 (by omega)];exact h1.c66 },Ba.grown h2 hg (Bt g)⟩
  ext:=h.ext.turned hg h.base }
theorem J6w (k1 k2 o v k5:Int):(#[.int .i64 k1,.int .i64 k2,.int .i64 o,.int .i64 v,.int .i64 k5]:Array Value).all (·.oneCell')=true:=by simp[Value.oneCell']
theorem dO:(prog.info? 62).map (·.size)=some 5:=by kernel_rfl
theorem uH {g n c a:Nat}{POk:Prop}(h:Ft v0 w g cs A n c a rs rl k1 k2 k3 k4 k5 fk fa l)(ve:k3=0∨k3=100∨k3=99∨k3=121)
 (HP:Ph k4=false→(Gg k3 k4)=(0,k4)→∀wx,An w wx→Calls prog 73 #[.pointer (some ⟨g,0,none⟩)] wx (Cv g wx POk PPost)):
 Calls prog 49 #[.pointer (some ⟨g,0,none⟩)] w (Cv g w (P8 l n a rl k1 k2 (Gg k3 k4).1 (Gg k3 k4).2 k5 fk fa POk) (H8 g l n a rl k1 k2 (Gg k3 k4).1 (Gg k3 k4).2 k5 fk fa PPost)):=by
 have ij:=J0v (v:=k4) ve;obtain⟨o,ho⟩:∃o,(Gg k3 k4).1=o:=⟨_,rfl⟩;obtain⟨v,hv⟩:∃v,(Gg k3 k4).2=v:=⟨_,rfl⟩;have gy:Gg k3 k4=(o,v):=by rw[←ho,←hv]
 rw[ho,hv];rw[ho]at ij;have Lo:Hid (Ph k4=false→(o,v)=(0,k4)→∀wx,An w wx→Calls prog 73 #[.pointer (some ⟨g,0,none⟩)] wx (Cv g wx POk PPost)):=A6 (by rw[gy]at HP;exact HP)
 obtain⟨h0,h1,fc,qg,mh,pv,df,lh⟩:=h.cells;have HI:=A6 h;have FF:=A6 gy;have vg:=A6 ij;have hb:=h.blk;have x29:w.cell? ⟨g,29,none⟩=some (.int .i64 k1):=(hb.cell 29).trans qg;have x30:w.cell? ⟨g,30,none⟩=some (.int .i64 k2):=(hb.cell 30).trans mh;have x31:w.cell? ⟨g,31,none⟩=some (.int .i64 k3):=(hb.cell 31).trans pv;have x32:w.cell? ⟨g,32,none⟩=some (.int .i64 k4):=(hb.cell 32).trans df;have x33:w.cell? ⟨g,33,none⟩=some (.int .i64 k5):=(hb.cell 33).trans lh;have KV:Hid (cs.size=67):=A6 h.mid.out.size;clear h h0 h1 fc qg mh pv df lh hb ho hv gy ij HP ve;go_enter func49,ntmps49
 go_upto_if 13 with fail
 go_cut [] (fun wx=>∃cs',Hid (Ft v0 wx g cs' A n c a rs rl k1 k2 o v k5 fk fa l)∧Hid (w.grownBy wx (some g))∧Hid (o=0→An w wx∧v=k4))
 case first=>
  by_cases hk:k3=0
  case neg=>
   have IY:(k3==0)=false:=by simp[hk]
   have HE:Hid (o=k3∧v=k4):=A6 (by
    have:=FF.out;unfold Gg at this;rw[if_neg hk]at this;injection this with h1 h2;exact⟨h1.symm,h2.symm⟩)
   go_wp2_with fail
   go_meet
   exact⟨cs,A6 (by rw[HE.out.1,HE.out.2];exact HI.out),A6 ⟨rfl,rfl,rfl,Aj _,fun _ _ _=>rfl⟩,A6 fun _=>⟨An.refl _,HE.out.2⟩⟩
  subst hk;have KW:=A6 (nB (k1:=k1) (k2:=k2) (k4:=k4) (k5:=k5) w);go_wp2_with fail
  refine KW.out.mono ?_
  rintro e w1 ⟨⟨o',v',b,rfl,hs⟩,ay⟩;have HS:=A6 hs;have bt:=A6 (ay.trans (An.alloc w1 (.cells #[k1,k2,o',v',k5] 62)));have ak:=A6 (Aq.new w1 62 #[.int .i64 k1,.int .i64 k2,.int .i64 o',.int .i64 v',.int .i64 k5]);clear x29 x30 x31 x32 x33 KW ay hs;go_upto_region 3 with fail
  change Code.wp _ _ _ _ (w1.alloc (.cells #[k1,k2,o',v',k5] 62));generalize w1.alloc (.cells #[k1,k2,o',v',k5] 62)=w2 at*;generalize w1.heap.size=p at*;have HE:Hid (o=o'∧v=v'∧(b=false→o'=0∧v'=k4)):=A6 (by
   have:=FF.out;unfold Gg at this;rw[if_pos rfl]at this;rcases HS.out with⟨rfl,h1⟩|⟨rfl,h1,rfl,rfl⟩
   ·rw[h1]at this
    injection this with h2 h3;exact⟨h2.symm,h3.symm,fun h=>by cases h⟩
   ·rw[h1]at this
    injection this with h2 h3;exact⟨h2.symm,h3.symm,fun _=>⟨rfl,rfl⟩⟩)
  have KX:Hid (b=true→o'≠0):=A6 (by
   rintro rfl h;rcases HS.out with⟨_,h1⟩|⟨h1,_⟩
   ·have:=Tv h1
    simp at this;omega
   ·cases h1)
  have lb:Hid (b=false→o=0∧v=k4):=A6 (fun h=>by
   obtain⟨h1,h2,h3⟩:=HE.out;obtain⟨h4,h5⟩:=h3 h;exact⟨h1.trans h4,h2.trans h5⟩)
  obtain⟨e1,e2⟩:o'=o∧v'=v:=⟨HE.out.1.symm,HE.out.2.1.symm⟩;subst e1;subst e2;have nr:=A6 (HI.out.wext bt.out);clear HE HS;cases b
  ·have dz:=A6 (lb.out rfl)
   have FG:Hid (Ft v0 w2 g cs A n c a rs rl k1 k2 o' v' k5 fk fa l):=A6 (by rw[dz.out.1,dz.out.2];exact nr.out)
   clear lb KX;go_wp2_with fail
   go_meet
   exact⟨cs,FG,A6 (G0 bt.out _),A6 fun _=>⟨bt.out,dz.out.2⟩⟩
  ·have QX:=A6 (KX.out rfl)
   have FG:=A6 (nr.out.setCmd o' v');clear lb KX;go_wp2_with (first
    |(refine wpList_load_row rfl 62 (.tmp 3) rfl p rfl 62 #[.int .i64 k1,.int .i64 k2,.int .i64 o',.int .i64 v',.int .i64 k5] (0,0) _ ak.out underlying62 rfl dO ?_)
    |(refine Gd rfl 62 (.tmp 26) (.tmp 24) rfl g 29 #[k1,k2,o',v',k5] rfl rfl 118 cs nr.out.blk dO (by rw[KV.out];exact(by decide:34≤67)) (J6w _ _ _ _ _) ?_))
   go_meet
   exact⟨_,FG,A6 (Da (G0 bt.out _) (Fq _ _ _)),A6 fun h=>absurd h QX.out⟩
 case rest=>
  obtain⟨cs',FH,KY,Ly⟩:=hcut;clear HI KV x29 x30 x31 x32 x33;have h:=FH.out;obtain⟨h0,h1,fc,qg,mh,pv,df,lh⟩:=h.cells;have hb:=h.blk;have c32:wc.cell? ⟨g,32,none⟩=some (.int .i64 v):=(hb.cell 32).trans df;have HC:Hid (cs'[0]? = some (.slice A n c)∧cs'[1]? = some (.int .i64 (a:Int))∧cs'[31]? = some (.int .i64 o)∧cs'[32]? = some (.int .i64 v)∧cs'[33]? = some (.int .i64 k5)):=A6 ⟨h0,h1,pv,df,lh⟩;clear h h0 h1 fc qg mh pv df lh hb;go_upto_if 32 with fail
  go_cut [32] (fun u wx=>u=.bool (Ph v)∧wx=wc)
  case first=>
   clear c32;go_wp2_with fail
   all_goals
    go_meet
    refine⟨?_,rfl⟩
    unfold Ph;clear Lo FF vg FH KY Ly HC;simp only[*,Bool.true_or,Bool.or_true,Bool.false_or,Bool.or_false]
  case rest=>
   obtain⟨rfl,hw⟩:=hcut;subst hw;by_cases hm:Ph v=true
   ·have Me:=A6 (zM FH.out vg.out)
    have HM:=A6 hm;rw[hm];clear hm;go_wp2_with fail
    refine Me.out.mono ?_
    rintro e w3 hd;have HF:Hid (Cv g w (P8 l n a rl k1 k2 o v k5 fk fa POk) (H8 g l n a rl k1 k2 o v k5 fk fa PPost) e w3):=A6 (hd.from KY.out (fun h=>h.1 HM.out) (fun cs h=>.inl ⟨HM.out,h⟩))
    obtain⟨er,cs3,rfl,_⟩:=hd;clear Me;go_wp2_with fail
    go_ret
    exact HF.out
   have UD:Ph v=false:=by simpa using hm
   have HM:=A6 UD;rw[UD];clear hm UD;by_cases ho:o=0
   ·subst ho
    have hE:=Ly.out rfl;have Nj:=A6 (Lo.out (by rw[←hE.2];exact HM.out) (by rw[hE.2]) _ hE.1)
    clear hE;have c31:=FH.out.mid.cell (k:=31) (by omega) HC.out.2.2.1
    go_wp2_with fail
    refine Nj.out.mono ?_
    rintro e w3 hd;have HF:Hid (Cv g w (P8 l n a rl k1 k2 0 v k5 fk fa POk) (H8 g l n a rl k1 k2 0 v k5 fk fa PPost) e w3):=A6 (hd.from KY.out (fun h=>h.2.1 HM.out rfl) (fun cs h=>.inr (.inl ⟨HM.out,rfl,h⟩)))
    obtain⟨er,cs3,rfl,_⟩:=hd;clear Nj;go_wp2_with fail
    go_ret
    exact HF.out
   have ke:(o==0)=false:=by simp[ho]
   have HO:=A6 ho;have FA:Hid (o=100∨o=99∨o=121):=A6 (vg.out.resolve_left ho);clear ho;have c31:=FH.out.mid.cell (k:=31) (by omega) HC.out.2.2.1
   go_upto_region 28 with fail
   go_quiet (fail)
   have No:=A6 (An.drewN wc nq);have na:=A6 (FH.out.wext No.out);have QY:=A6 (Da KY.out (G0 No.out (some g)));clear c31 c32;generalize wc.drewN nq=wd at*;have c0:=na.out.mid.cell (k:=0) (by omega) HC.out.1
   have c1:=na.out.mid.cell (k:=1) (by omega) HC.out.2.1
   have c31:=na.out.mid.cell (k:=31) (by omega) HC.out.2.2.1
   have c32:=na.out.mid.cell (k:=32) (by omega) HC.out.2.2.2.1
   have c33:=na.out.mid.cell (k:=33) (by omega) HC.out.2.2.2.2
   by_cases IZ:v=o
   ·have JA:(v==o)=true:=by simp[IZ]
    have HV:=A6 IZ;have AE:Hid (Calls prog 74 #[.pointer (some ⟨g,0,none⟩),.int .i64 0,.int .i64 (n:Int),.bool true] wd (Cv g wd (Ye l rl k2 o 0 n) (fY g l a rl k2 o fk fa 0 n true))):=A6 (Rm (f:=0) (t:=n) na.out (B8 _) (Aj _) FA.out);clear IZ;go_wp2_with fail
    refine AE.out.mono ?_
    rintro e w3 hd;have HF:Hid (Cv g w (P8 l n a rl k1 k2 o v k5 fk fa POk) (H8 g l n a rl k1 k2 o v k5 fk fa PPost) e w3):=A6 (hd.from QY.out (fun h=>(h.2.2 HM.out HO.out).same HV.out) (fun cs h=>by
     obtain⟨m,at_,md,co,e',h1,h2⟩:=h;exact .inr (.inr ⟨HM.out,HO.out,0,n,true,m,at_,md,co,e',B8 _,Aj _,.inl ⟨HV.out,rfl,rfl,rfl⟩,h1,h2⟩)))
    obtain⟨er,cs3,rfl,_⟩:=hd;clear AE c0 c1 c31 c32 c33;go_wp2_with fail
    go_ret
    exact HF.out
   have JA:(v==o)=false:=by simp[IZ]
   have HV:=A6 IZ;clear IZ;by_cases QZ:v=105∨v=97
   case neg=>
    have h1:(v !=105)=true:=by simp;omega
    have h2:(v !=97)=true:=by simp;omega
    have HF:Hid (Cv g w (P8 l n a rl k1 k2 o v k5 fk fa POk) (H8 g l n a rl k1 k2 o v k5 fk fa PPost) (.returned (.int .i64 9)) wd):=A6 ⟨9,cs',rfl,QY.out,fun h=>((h.2.2 HM.out HO.out).none HV.out QZ).elim,fun h=>by cases h⟩
    clear QZ;go_wp2_with fail
    go_ret
    exact HF.out
   case pos=>
    have HIA:=A6 QZ;have jh:=A6 na.out.line.len;rcases QZ with hv|hv
    ·have N0:=trivial;exact K12
    ·have N1:=trivial;exact K12
structure Lt (w:World)(b:Nat)(vs:Array Value)(m:List Int)(at_ md fk fa:Int)(rl:Nat→List Int)(e:List Gp):Prop where
 size:vs.size=33
 one:vs.all (·.oneCell')=true
 text:∃B q d,vs[0]? = some (.slice B q d)∧Ba w b B q d m
 oat:vs[1]? = some (.int .i64 at_)
 regs:∀j,j<27→∃v,vs[2+j]? = some v∧Bl w b v (rl j)
 c29:vs[29]? = some (.int .i64 fk)
 c30:vs[30]? = some (.int .i64 fa)
 c31:vs[31]? = some (.int .i64 md)
 edit:∃v,vs[32]? = some v∧Es w b v e
 far:∀B q d,vs[0]? = some (.slice B q d)→∀g',(Value.slice B q d).ownBlock=some g'→(∀j,j<27→∀v,vs[2+j]? = some v→v.ownBlock≠some g')∧∃v,vs[32]? = some v∧Es w (g'+1) v e
theorem Ek.res {b b':Nat}(h:Ek w b cs m at_ md fk fa rl e)(h1:(cs.extract 34 67).all (·.oneCell')=true)(hb:b'≤b):Lt w b' (cs.extract 34 67) m at_ md fk fa rl e:=by
 have hz:=h.size;have hx:∀k,k<33→(cs.extract 34 67)[k]? = cs[34+k]? := fun k hk=>by rw[Array.getElem?_extract,if_pos (by omega)]
 exact {
  size:=by simp[hz]
  one:=h1
  text:=let ⟨B,q,d,h2,h3⟩:=h.text;⟨B,q,d,by rw[hx 0 (by omega)];exact h2,Bd.lower h3 hb⟩
  oat:=by rw[hx 1 (by omega)];exact h.oat
  regs:=fun j hj=>let ⟨v,h2,h3⟩:=h.regs j hj;⟨v,by rw[hx _ (by omega),show 34+(2+j)=36+j by omega];exact h2,h3.lower hb⟩
  c29:=by rw[hx 29 (by omega)];exact h.c63
  c30:=by rw[hx 30 (by omega)];exact h.c64
  c31:=by rw[hx 31 (by omega)];exact h.c65
  edit:=let ⟨v,h2,h3⟩:=h.edit;⟨v,by rw[hx 32 (by omega)];exact h2,h3.lower hb⟩
  far:=fun B q d h0 g' cr=>by
   rw[hx 0 (by omega)]at h0
   obtain⟨h2,v,h3,h4⟩:=h.far B q d h0 g' cr;exact⟨fun j hj u hu=>by rw[hx _ (by omega),show 34+(2+j)=36+j by omega]at hu;exact h2 j hj u hu,v,by rw[hx 32 (by omega)];exact h3,h4⟩ }
theorem Lt.ext {w w':World}{b:Nat}{vs:Array Value}(h:Lt w b vs m at_ md fk fa rl e)(he:An w w'):Lt w' b vs m at_ md fk fa rl e:=
 {
  h with
  text:=let ⟨B,q,d,h1,h2⟩:=h.text;⟨B,q,d,h1,Bd.ext h2 he⟩
  regs:=fun j hj=>let ⟨v,h1,h2⟩:=h.regs j hj;⟨v,h1,h2.ext he⟩
  edit:=let ⟨v,h1,h2⟩:=h.edit;⟨v,h1,h2.ext he⟩
  far:=fun B q d h0 g' cr=>let ⟨h1,v,h2,h3⟩:=h.far B q d h0 g' cr;⟨h1,v,h2,h3.ext he⟩ }
def Rg (n:Nat)(a k1 fk k3:Int):Prop:=(n≤200∧0≤a∧a≤max 0 ((n:Int)-1))∧(0≤k1∧k1≤999)∧rO fk k3
theorem J4y {n c:Nat}{a fk fa k1 k2 k3 k4 k5:Int}{Ok:Prop}{Post:World→Array Value→Prop}(hl:Bj w A n c l)(wl:∀x∈l,(Lit.int .i64 x).wf=true)(hA:A=none→c=0)(hr:Lp w rs rl)
 (hP:∀w1 w2 cs,Post w1 cs→w1.grownBy w2 (some (w.heap.size+1+1+1+1))→Post w2 cs)
 (H1:Rg n a k1 fk k3→∀(wz:World) (g:Nat) (cs:Array Value),w.heap.size+5≤g→Ft w wz g cs A n c a.toNat rs rl k1 k2 k3 k4 k5 fk fa l→
  Calls prog 49 #[.pointer (some ⟨g,0,none⟩)] wz (Cv g wz Ok Post)):
 Calls prog 28 #[.agg #[.slice A n c,a],.agg rs,.agg #[fk,fa],.agg #[k1,k2,k3,k4,k5]] w (rP w (Rg n a k1 fk k3∧Ok) Post):=by
 by_cases hv:(n≤200∧0≤a∧a≤max 0 ((n:Int)-1))∧(0≤k1∧k1≤999)
 ·obtain⟨⟨hn,ha,wv⟩,hk,fx⟩:=hv
  refine(wF (Ok:=Ok) (Post:=Post) hl hA hr hn ha wv hk fx hP ?_).mono fun e w' ⟨h1,h2⟩=>⟨h1,h2.imp (fun⟨h3,h4⟩=>⟨fun h=>h3 ⟨h.1.2.2,h.2⟩,h4⟩) id⟩
  intro hf wz g cs B d hx hg hb hd ho hB;refine H1 ⟨⟨hn,ha,wv⟩,⟨hk,fx⟩,hf⟩ wz g cs hg ?_
  have gt:((a.toNat:Nat):Int)=a:=by omega
  exact { blk:=hb,doer:=⟨B,d,by rw[gt];exact hd,ho⟩,ext:=hx,base:=by omega,regs:=hr,line:=hl,cap:=hA,len:=hn,place:=by omega,nums:=wl,cnt:=⟨hk,fx⟩ }
 ·refine(J4x (Ok:=Rg n a k1 fk k3∧Ok) (Post:=Post) (Nat.le_trans hl.ncap hl.nmax) ?_ (fun h=>hv ⟨h.1.1,h.1.2.1⟩))
  rcases Classical.em (n≤200∧0≤a∧a≤max 0 ((n:Int)-1))with h1|h1
  ·exact .inr (fun h2=>hv ⟨h1,h2⟩)
  ·exact .inl h1
def J5k (l:List Int)(n a:Nat)(k1 o v k5 fk fa:Int)(f t:Nat)(whole:Bool)(zk za:Int):Prop:=
 (Ph v=true∧whole=false∧∃mk ma,J3 fk fa v k5=some (mk,ma,zk,za)∧Ko l n a mk k1 ma f t)∨(Ph v=false∧zk=fk∧za=fa∧Tn l n a o v k5 f t whole)
def J5l (b:Nat)(l:List Int)(n:Nat)(a:Int)(rl:Nat→List Int)(k1 k2 o v k5 fk fa:Int)(w:World)(cs:Array Value):Prop:=
 ∃g f t whole m at_ md zk za co e,b≤g∧f≤t∧t≤n∧Ek w (g+1) cs m at_ md zk za co e∧Lu l a.toNat rl k2 o f t whole m at_ md co e∧J5k l n a.toNat k1 o v k5 fk fa f t whole zk za
theorem H8.op {g b n a:Nat}{k1 k2 o v k5 fk fa:Int}(h:H8 g l n a rl k1 k2 o v k5 fk fa PPost w cs)(ho:o≠0)(hb:b≤g)(ha:a≤n-1):J5l b l n a rl k1 k2 o v k5 fk fa w cs:=by
 rcases h with⟨hm,mk,ma,zk,za,hf,h|⟨_,f,t,m,at_,md,co,e,hr,h1,h2⟩⟩|⟨_,h,_⟩|⟨hm,_,f,t,whole,m,at_,md,co,e,h1,h2,h3,h4,h5⟩
 ·exact absurd h.1 ho
 ·have l9:=hr.bd ha
  exact⟨g,f,t,false,m,at_,md,zk,za,co,e,hb,l9.2.2.1,l9.2.2.2,h1,h2,.inl ⟨hm,rfl,mk,ma,hf,hr⟩⟩
 ·exact absurd h ho
 ·exact⟨g,f,t,whole,m,at_,md,fk,fa,co,e,hb,h1,h2,h4,h5,.inr ⟨hm,rfl,rfl,h3⟩⟩
end
