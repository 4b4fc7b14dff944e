/-
  Part ZDoM.
-/
import Derived.Test.YtiahhfglhlgfiaaGreatZMotS
import Derived.Test.YtiahhfglhlgfiaaGreatZDoP
set_option maxRecDepth 100000
set_option maxHeartbeats 16000000
set_option linter.unusedVariables false
set_option linter.unusedSimpArgs false
namespace Go.Proofs.YtiahhfglhlgfiaaGreat
open Go.RowKit
open AllReadyH renaming cons→Ah,nil→Ak
open _root_.Nat renaming le_refl→Ai,lt_succ_self→Bx,zero_le→Aw
section
variable {rl:Nat→List Int}{l m:List Int}{k1 k2 k3 k4 k5 fk fa at_ md o v k key cnt arg:Int}{PPost:World→Array Value→Prop}{cs rs:Array Value}{A:Option Addr}{n a g:Nat}{e:List Fh}{w v0:World}{ar:Bool}
def Q4 (fk fa v arg mk ma zk za er:Int):Prop:=(er=0∧Gl fk fa v arg=some (mk,ma,zk,za))∨(er=5∧Gl fk fa v arg=none)
theorem Xz {n:Nat}{op:Bool}{e:Ending}(h:Qw l n k key cnt arg op e):∃(x:Int) (i:Bool) (er:Int),e=.returned (.tuple #[.int .i64 x,.bool i,.int .i64 er]):=by
 rcases h with⟨_,o,_,rfl⟩|⟨_,er,_,rfl⟩
 ·rcases o with _|⟨a,i⟩
  ·exact⟨0,false,5,rfl⟩
  ·exact⟨a,i,0,rfl⟩
 ·exact⟨0,false,er,rfl⟩
theorem Sg {n:Nat}{e:Ending}(h:Jw l n k key cnt arg e):∃(x y er:Int),e=.returned (.tuple #[.int .i64 x,.int .i64 y,.int .i64 er]):=by
 rcases bY h with⟨er,_,rfl⟩|⟨lo,hi,_,_,_,_,rfl⟩
 ·exact⟨0,0,er,rfl⟩
 ·exact⟨lo,hi,0,rfl⟩
def fM (l:List Int)(n a:Nat)(key cnt arg:Int)(x:Int):Prop:=Y8 n a key cnt∧∃(y:Nat) (i:Bool),Ya l a key arg (max 1 cnt).toNat false (some (y,i))∧y≤n-1∧x=y
theorem iS {key cnt arg x:Int}{i:Bool}{er:Int}(hl:l.length=n)(h:Qw l n a key cnt arg false (.returned (.tuple #[.int .i64 x,.bool i,.int .i64 er]))):
 (er=0∧fM l n a key cnt arg x)∨(er≠0∧¬(Y8 n a key cnt∧¬Ya l a key arg (max 1 cnt).toNat false none)):=by
 rcases h with⟨hok,o,hR,he⟩|⟨hno,er',h1,he⟩
 ·rcases o with _|⟨y,j⟩
  ·rw[Vr]at he
   injection he with he;injection he with he;simp at he;obtain⟨_,_,rfl⟩:=he;exact .inr ⟨by decide,fun h=>h.2 hR⟩
  ·rw[Vq]at he
   injection he with he;injection he with he;simp at he;obtain⟨rfl,rfl,rfl⟩:=he;have hok':=hok;obtain⟨_,b1,b2,_⟩:=hok;have:=kZ (l:=l) (k:=a) (by rw[hl];omega) (by omega) hR rfl
   rw[hl]at this;exact .inl ⟨rfl,hok',y,i,hR,this.2.1 rfl,rfl⟩
 ·injection he with he;injection he with he
  simp at he;obtain⟨_,_,rfl⟩:=he;exact .inr ⟨by simpa using h1,fun h=>hno h.1⟩
def J8 (l:List Int)(n a:Nat)(key cnt arg:Int)(f t:Nat):Prop:=Y8 n a key cnt∧∃(x:Nat) (i:Bool),Ya l a key arg (max 1 cnt).toNat true (some (x,i))∧x≤n∧(i=true→x<n)∧f=min a x∧t=max a x+(if i=true then 1 else 0)
theorem J8.bd {key cnt arg:Int}{f t:Nat}(h:J8 l n a key cnt arg f t)(ha:a≤n-1):f≤a∧a≤t∧f≤t∧t≤n:=by
 obtain⟨⟨_,_,_,_⟩,x,i,_,h1,h2,rfl,rfl⟩:=h;cases i
 ·simp;omega
 ·have:=h2 rfl
  simp;omega
theorem Xw {key cnt arg x y er:Int}(h:Jw l n a key cnt arg (.returned (.tuple #[.int .i64 x,.int .i64 y,.int .i64 er]))):
 (er=0∧∃f t:Nat,x=f∧y=t∧J8 l n a key cnt arg f t)∨(er≠0∧¬(Y8 n a key cnt∧¬Ya l a key arg (max 1 cnt).toNat true none)):=by
 rcases h with⟨er',h1,he,h2⟩|⟨hok,z,i,hR,hz,hi,lo,hi',h1,h2,he⟩
 ·injection he with he;injection he with he
  simp at he;obtain⟨_,_,rfl⟩:=he;exact .inr ⟨by simpa using h1,fun h=>h.2 (h2 h.1)⟩
 ·injection he with he;injection he with he
  simp at he;obtain⟨rfl,rfl,rfl⟩:=he;refine .inl ⟨rfl,min a z,max a z+(if i=true then 1 else 0),?_,?_,hok,z,i,hR,hz,hi,rfl,rfl⟩
  ·rw[h1];omega
  ·rw[h2];split<;>omega
theorem Do.setFind {b:Nat}(h:Do w b cs m at_ md fk fa rl e)(zk za:Int):Do w b (Lj cs 63 #[.int .i64 zk,.int .i64 za]) m at_ md zk za rl e:=by
 have hz:63+(#[.int .i64 zk,.int .i64 za]:Array Value).size≤cs.size:=by rw[h.size];exact(by decide:65≤67)
 have hs:(#[.int .i64 zk,.int .i64 za]:Array Value).size=2:=rfl;exact {
  size:=by rw[Q8 hz];exact h.size
  text:=by rw[Cs hz,if_pos (by omega)];exact h.text
  oat:=by rw[Cs hz,if_pos (by omega)];exact h.oat
  regs:=fun j hj=>by rw[Cs hz,if_pos (by omega)];exact h.regs j hj
  c63:=by rw[Cs hz,if_neg (by omega),if_pos (by rw[hs];omega)];rfl
  c64:=by rw[Cs hz,if_neg (by omega),if_pos (by rw[hs];omega)];rfl
  c65:=by rw[Cs hz,if_neg (by omega),if_neg (by rw[hs];omega)];exact h.c65
  edit:=by rw[Cs hz,if_neg (by omega),if_neg (by rw[hs];omega)];exact h.edit
  far:=fun B q d h34 g' hg'=>by
   rw[Cs hz,if_pos (by omega)]at h34
   obtain⟨h1,v,h2,h3⟩:=h.far B q d h34 g' hg';refine⟨fun j hj v hv=>?_,v,by rw[Cs hz,if_neg (by omega),if_neg (by rw[hs];omega)];exact h2,h3⟩
   rw[Cs hz,if_pos (by omega)]at hv
   exact h1 j hj v hv }
theorem Da.setFind {w0 w:World}{cs0 cs:Array Value}(h:Da w0 g cs0 w cs m at_ md fk fa rl e)(zk za:Int):
 Da w0 g cs0 (w.setRow g (Lj cs 63 #[.int .i64 zk,.int .i64 za])) (Lj cs 63 #[.int .i64 zk,.int .i64 za]) m at_ md zk za rl e:=
 ⟨An.setRow h.blk _,(h.out.grown (Eo w g _) (Nat.lt_succ_self g)).setFind zk za,fun k hk=>by rw[Cs (by rw[h.out.size];exact(by decide:65≤67)),if_pos (by omega)];exact h.same k hk,Co h.grown (Eo w g _)⟩
def Mj (l:List Int)(n a:Nat)(rl:Nat→List Int)(k1 k2 k3 k4 k5 fk fa:Int):Prop:=
 ∃mk ma zk za,Gl fk fa k4 k5=some (mk,ma,zk,za)∧Y8 n a mk k1∧¬Ya l a mk ma (max 1 k1).toNat (decide (k3≠0)) none∧(k3≠0→∀f t,J8 l n a mk k1 ma f t→Uw l rl k2 k3 f t)
def Jg (g:Nat)(l:List Int)(n a:Nat)(rl:Nat→List Int)(k1 k2 k3 k4 k5 fk fa:Int)(w:World)(cs:Array Value):Prop:=
 ∃mk ma zk za,Gl fk fa k4 k5=some (mk,ma,zk,za)∧
 (
  (k3=0∧∃x,fM l n a mk k1 ma x∧Do w (g+1) cs l x 0 zk za rl [])∨
  (k3≠0∧∃f t m at_ md rl' e,J8 l n a mk k1 ma f t∧Do w (g+1) cs m at_ md zk za rl' e∧Kr l a rl k2 k3 f t false m at_ md rl' e))
theorem rD {g n c a:Nat}(h:Ep v0 w g cs A n c a rs rl k1 k2 k3 k4 k5 fk fa l)(hk3:k3=0∨k3=100∨k3=99∨k3=121):
 Calls Tryz.prog 120 #[.pointer (some ⟨g,0,none⟩)] w (Ch g w (Mj l n a rl k1 k2 k3 k4 k5 fk fa) (Jg g l n a rl k1 k2 k3 k4 k5 fk fa)):=by
 obtain⟨h0,h1,hrs,h29,h30,h31,h32,h33⟩:=h.cells;have HB:=A4 h.blk;have HV63:Hid (∀j v,(#[.int .i64 fk,.int .i64 fa]:Array Value)[j]? = some v→cs[63+j]? = some v):=A4 (by
  have h3:=h.mid.out;intro j v hj
  match j,hj with
  |0,hj=>rw[←hj];exact h3.c63
  |1,hj=>rw[←hj];exact h3.c64
  |j+2,hj=>cases hj)
 have HV29:Hid (∀j v,(#[.int .i64 k1,.int .i64 k2,.int .i64 k3,.int .i64 k4,.int .i64 k5]:Array Value)[j]? = some v→cs[29+j]? = some v):=A4 (by
  intro j v hj
  match j,hj with
  |0,hj=>rw[←hj];exact h29
  |1,hj=>rw[←hj];exact h30
  |2,hj=>rw[←hj];exact h31
  |3,hj=>rw[←hj];exact h32
  |4,hj=>rw[←hj];exact h33
  |j+5,hj=>cases hj)
 have HI:=A4 h;have HC:Hid (cs[0]? = some (.slice A n c)∧cs[1]? = some (.int .i64 (a:Int))∧cs[31]? = some (.int .i64 k3)):=A4 ⟨h0,h1,h31⟩;clear h h0 h1 hrs h29 h30 h31 h32 h33;go_enter Tryz.func120,Tryz.ntmps120
 go_upto_region 1 with fail
 go_cut [3,4,5] (fun v3 v4 v5 wx=>∃p3 p4 mk ma zk za er,v3=.pointer (some ⟨p3,0,none⟩)∧v4=.pointer (some ⟨p4,0,none⟩)∧v5=.int .i64 er∧w.heap.size≤p3∧w.heap.size≤p4∧p3≠p4∧Hid (An wx p3 202 #[.int .i64 mk,.int .i64 k1,.int .i64 ma])∧Hid (An wx p4 38 #[.int .i64 zk,.int .i64 za])∧Hid (Q4 fk fa k4 k5 mk ma zk za er)∧Hid (Al w wx))
 case first=>
  refine wp_region_held_drew (S:=fun w'=>An w' g 185 cs) (by kernel_rfl) (HB.out.ext (Al.drew w)) (fun hHeld=>?_)
  refine B8 (i:=0) (v:=(.pointer (some ⟨g,0,none⟩))) rfl hHeld ?_
  refine B8 (i:=1) (v:=(.pointer (some ⟨g,0,none⟩))) rfl hHeld ?_
  refine B8 (i:=2) (v:=(.pointer (some ⟨g,34,none⟩))) rfl hHeld ?_
  refine B8 (i:=3) (v:=(.pointer (some ⟨g,63,none⟩))) rfl hHeld ?_
  refine F4 (i:=4) (v:=(.agg #[.int .i64 fk,.int .i64 fa])) rfl (fun w hSw=>by exact Gy rfl 38 (.tmp 16) rfl g 63 rfl 185 cs #[.int .i64 fk,.int .i64 fa] (0,0) _ hSw HV63.out Tryz.underlying38 rfl Dg) hHeld ?_
  refine B8 (i:=5) (v:=(.pointer (some ⟨g,0,none⟩))) rfl hHeld ?_
  refine B8 (i:=6) (v:=(.pointer (some ⟨g,0,none⟩))) rfl hHeld ?_
  refine B8 (i:=7) (v:=(.pointer (some ⟨g,29,none⟩))) rfl hHeld ?_
  refine F4 (i:=8) (v:=(.agg #[.int .i64 k1,.int .i64 k2,.int .i64 k3,.int .i64 k4,.int .i64 k5])) rfl (fun w hSw=>by exact Gy rfl 87 (.tmp 20) rfl g 29 rfl 185 cs #[.int .i64 k1,.int .i64 k2,.int .i64 k3,.int .i64 k4,.int .i64 k5] (0,0) _ hSw HV29.out Tryz.underlying87 rfl (by kernel_rfl)) hHeld ?_
  have hx:Al w w.drew:=Al.drew w;have hb:=HB.out.ext hx;have hlo:=hx.hsize;generalize w.drew=W0 at*;refine wpAnyH_ready (rs:=[9,14,15]) (by kernel_rfl) (by simp) ?_
  refine Ah rfl (fun K hK=>?_) (Ah rfl (fun K hK=>?_) (Ah rfl (fun K hK=>?_) (Ak)))
  ·have N0:=trivial;exact K2
  ·have N1:=trivial;exact K2
  ·have N2:=trivial;exact K2
 case rest=>
  obtain⟨p3,p4,mk,ma,zk,za,er,rfl,rfl,rfl,hp3,hp4,hne,H3,H4,HF,HX⟩:=hcut;have HG:Hid (g<w.heap.size):=A4 HB.out.lt;have HM:=A4 (HI.out.mid.ext HX.out);have HIc:=A4 (HI.out.wext HX.out);have hln:=A4 HI.out.line.len;clear HV63 HV29 HB;by_cases her:er=0
  case neg=>
   have HFl:Hid (Ch g w (Mj l n a rl k1 k2 k3 k4 k5 fk fa) (Jg g l n a rl k1 k2 k3 k4 k5 fk fa) (.returned (.int .i64 er)) wc):=A4 (HM.out.fail her (by
    rintro⟨mk',ma',zk',za',h1,_⟩;rcases HF.out with⟨h2,_⟩|⟨_,h2⟩
    ·exact her h2
    ·rw[h2]at h1;cases h1))
   clear hne hp3 hp4 H3 H4 HF HX HM HIc;go_wp2_with fail
   go_ret
   exact HFl.out
  subst her;have HFq:Hid (Gl fk fa k4 k5=some (mk,ma,zk,za)):=A4 (by
   rcases HF.out with⟨_,h2⟩|⟨h2,_⟩
   ·exact h2
   ·cases h2)
  clear HF;have c0:wc.cell? ⟨g,0,none⟩=some (.slice A n c):=HM.out.cell (by omega) HC.out.1
  have c1:wc.cell? ⟨g,1,none⟩=some (.int .i64 (a:Int)):=HM.out.cell (by omega) HC.out.2.1
  have c31:wc.cell? ⟨g,31,none⟩=some (.int .i64 k3):=HM.out.cell (by omega) HC.out.2.2
  have h3:=H3.out;by_cases hk:k3=0
  ·have N0:=trivial;exact zS
  ·have N1:=trivial;exact zS
def Mc (v:Int):Bool:=v==104||(v==108||(v==48||(v==94||(v==36||(v==124||(v==119||(v==87||(v==98||(v==66||(v==101||(v==69||(v==37||(v==102||(v==70||(v==116||(v==84||(v==59||(v==44))))))))))))))))))
def Hr (o v:Int):Int×Int:=if o=0 then(match Qu v with|some p=>p|none=>(0,v))else(o,v)
theorem R9 {v:Int}{p:Int×Int}(h:Qu v=some p):p.1=100∨p.1=99∨p.1=121:=by
 unfold Qu at h
 repeat' split at h
 all_goals first
  |(injection h with h;subst h;simp;done)
  |cases h
theorem sJ {o v:Int}(h:o=0∨o=100∨o=99∨o=121):(Hr o v).1=0∨(Hr o v).1=100∨(Hr o v).1=99∨(Hr o v).1=121:=by
 unfold Hr;split
 ·split
  ·rename_i h1
   exact .inr (R9 h1)
  ·exact .inl rfl
 ·exact h
def Qz (l:List Int)(n a:Nat)(o v k5:Int)(f t:Nat)(whole:Bool):Prop:=
 (v=o∧f=0∧t=n∧whole=true)∨(v≠o∧(v=105∨v=97)∧whole=false∧kF l a (v==97) k5 f t 0)
def Fr (g:Nat)(l:List Int)(n a:Nat)(rl:Nat→List Int)(k1 k2 o v k5 fk fa:Int)(PPost:World→Array Value→Prop)(w:World)(cs:Array Value):Prop:=
 (Mc v=true∧Jg g l n a rl k1 k2 o v k5 fk fa w cs)∨(Mc v=false∧o=0∧PPost w cs)∨
 (Mc v=false∧o≠0∧∃f t whole m at_ md rl' e,f≤t∧t≤n∧Qz l n a o v k5 f t whole∧Do w (g+1) cs m at_ md fk fa rl' e∧Kr l a rl k2 o f t whole m at_ md rl' e)
def Px (l:List Int)(n a:Nat)(rl:Nat→List Int)(k2 o v k5:Int):Prop:=
 (v=o∧Uw l rl k2 o 0 n)∨(v≠o∧(v=105∨v=97)∧∃f t:Nat,kF l a (v==97) k5 f t 0∧Uw l rl k2 o f t)
theorem qV {k:Nat}{ar big:Bool}{x y er x' y' er':Int}(h:wW l k ar big x y er)(h':wW l k ar big x' y' er'):x=x'∧y=y'∧er=er':=by
 rcases h with⟨h1,h2,h3,h4⟩|⟨h1,h2,h3,h4⟩<;>rcases h' with⟨g1,g2,g3,g4⟩|⟨g1,g2,g3,g4⟩
 ·exact I36
 ·omega
 ·omega
 ·exact I36
theorem qX {k:Nat}{o x y er x' y' er':Int}(h:xZ l k ar o x y er)(h':xZ l k ar o x' y' er'):x=x'∧y=y'∧er=er':=by
 rcases h with⟨i,b,h1,h2,h3,h4⟩|⟨h1,h2,h3,h4⟩<;>rcases h' with⟨i',b',g1,g2,g3,g4⟩|⟨g1,g2,g3,g4⟩
 ·obtain⟨rfl,rfl⟩:=iU h1 g1
  exact I36
 ·exact absurd g1 (Vz h1)
 ·exact absurd h1 (Vz g1)
 ·exact I36
theorem qW {k:Nat}{q x y er x' y' er':Int}(h:xY l k ar q x y er)(h':xY l k ar q x' y' er'):x=x'∧y=y'∧er=er':=by
 rcases h with⟨i,b,h1,h2,h3,h4⟩|⟨h1,h2,h3,h4⟩<;>rcases h' with⟨i',b',g1,g2,g3,g4⟩|⟨g1,g2,g3,g4⟩
 ·obtain⟨rfl,rfl⟩:=dC h1 g1
  exact I36
 ·exact absurd g1 (Wb h1)
 ·exact absurd h1 (Wb g1)
 ·exact I36
theorem eS {k:Nat}{key x y er x' y' er':Int}(h:kF l k ar key x y er)(h':kF l k ar key x' y' er'):x=x'∧y=y'∧er=er':=by
 rcases h with⟨hk,h⟩|⟨hk,h⟩|⟨hk,h⟩|⟨hk,h⟩|⟨hk,h⟩<;>rcases h' with⟨gk,g⟩|⟨gk,g⟩|⟨gk,g⟩|⟨gk,g⟩|⟨gk,g⟩
 all_goals first
  |exact qV h g
  |exact qW h g
  |exact qX h g
  |(exfalso;omega)
  |(exfalso;unfold T5 at hk;omega)
  |(exfalso;unfold T5 at gk;omega)
  |(unfold T5 at hk gk;omega)
theorem Px.same (h:Px l n a rl k2 o v k5)(hv:v=o):Uw l rl k2 o 0 n:=by
 rcases h with⟨_,h⟩|⟨h,_⟩
 ·exact h
 ·exact absurd hv h
theorem Px.none (h:Px l n a rl k2 o v k5)(hv:¬v=o)(hi:¬(v=105∨v=97)):False:=by
 rcases h with⟨h,_⟩|⟨_,h,_⟩
 ·exact hv h
 ·exact hi h
theorem Px.span {B:Bool}{x y er:Int}(h:Px l n a rl k2 o v k5)(hv:¬v=o)(hB:(v==97)=B)(hR:kF l a B k5 x y er):er=0∧∃f t:Nat,x=f∧y=t∧Uw l rl k2 o f t:=by
 rcases h with⟨h,_⟩|⟨_,_,f,t,h1,h2⟩
 ·exact absurd h hv
 ·rw[hB]at h1
  obtain⟨e1,e2,e3⟩:=eS hR h1;exact⟨e3,f,t,e1,e2,h2⟩
theorem Px.span' {n a f t:Nat}{B:Bool}(h:Px l n a rl k2 o v k5)(hv:¬v=o)(hB:(v==97)=B)(hR:kF l a B k5 f t 0):Uw l rl k2 o f t:=by
 obtain⟨_,f',t',e1,e2,h2⟩:=h.span hv hB hR;have h3:f=f':=by omega
 have h4:t=t':=by omega
 rw[h3,h4];exact h2
def Lz (l:List Int)(n a:Nat)(rl:Nat→List Int)(k1 k2 o v k5 fk fa:Int)(POk:Prop):Prop:=
 (Mc v=true→Mj l n a rl k1 k2 o v k5 fk fa)∧(Mc v=false→o=0→POk)∧(Mc v=false→o≠0→Px l n a rl k2 o v k5)
theorem xM {k:Nat}{key x y:Int}(h:kF l k ar key x y 0):∃f t:Nat,x=f∧y=t∧f≤t∧t≤l.length:=by
 rcases h with⟨_,h⟩|⟨_,h⟩|⟨_,h⟩|⟨_,h⟩|⟨_,_,_,h⟩
 ·rcases h with⟨h1,_,rfl,rfl⟩|⟨_,h,_⟩
  ·obtain⟨a1,a2,a3,a4⟩:=Jv (big:=false) h1
   obtain⟨b1,b2,b3⟩:=Vg (big:=false) h1;exact I66
  ·cases h
 ·rcases h with⟨h1,_,rfl,rfl⟩|⟨_,h,_⟩
  ·obtain⟨a1,a2,a3,a4⟩:=Jv (big:=true) h1
   obtain⟨b1,b2,b3⟩:=Vg (big:=true) h1;exact I66
  ·cases h
 ·rcases h with⟨f,t,⟨h1,_,_,_,h2⟩,_,rfl,rfl⟩|⟨_,h,_⟩
  ·exact I70
  ·cases h
 ·rcases h with⟨f,t,⟨_,h1,_,h2,_,h3,_⟩,_,rfl,rfl⟩|⟨_,h,_⟩
  ·have hne:f<t:=by
    rcases Mt h1 with e|⟨m,e1,e2,e3,e4,_⟩<;>omega
   exact I70
  ·cases h
 ·cases h
theorem Ch.from {w wx:World}{Ok Ok':Prop}{Post Post':World→Array Value→Prop}{e:Ending}{w':World}(h:Ch g wx Ok Post e w')(hg:w.grownBy wx (some g))(hO:Ok'→Ok)(hP:∀cs,Post w' cs→Post' w' cs):Ch g w Ok' Post' e w':=by
 obtain⟨er,cs',h1,h2,h3,h4⟩:=h;exact⟨er,cs',h1,Co hg h2,fun h=>h3 (hO h),fun h=>let ⟨a,b,c,d⟩:=h4 h;⟨a,b,c,hP _ d⟩⟩
theorem Ep.setCmd {n c a:Nat}(h:Ep v0 w g cs A n c a rs rl k1 k2 k3 k4 k5 fk fa l)(o v:Int):
 Ep v0 (w.setRow g (Lj cs 29 #[.int .i64 k1,.int .i64 k2,.int .i64 o,.int .i64 v,.int .i64 k5])) g (Lj cs 29 #[.int .i64 k1,.int .i64 k2,.int .i64 o,.int .i64 v,.int .i64 k5]) A n c a rs rl k1 k2 o v k5 fk fa l:=by
 obtain⟨B,d,h1,h2⟩:=h.doer;have hs:(#[.int .i64 k1,.int .i64 k2,.int .i64 o,.int .i64 v,.int .i64 k5]:Array Value).size=5:=rfl;have hz:29+(#[.int .i64 k1,.int .i64 k2,.int .i64 o,.int .i64 v,.int .i64 k5]:Array Value).size≤cs.size:=by rw[h1.size,hs];omega
 have lo:∀k,k<29→(Lj cs 29 #[.int .i64 k1,.int .i64 k2,.int .i64 o,.int .i64 v,.int .i64 k5])[k]? = cs[k]? := fun k hk=>by rw[Cs hz,if_pos hk]
 have hi:∀k,34≤k→(Lj cs 29 #[.int .i64 k1,.int .i64 k2,.int .i64 o,.int .i64 v,.int .i64 k5])[k]? = cs[k]? := fun k hk=>by rw[Cs hz,if_neg (by omega),if_neg (by rw[hs];omega)]
 have mid:∀k,29≤k→k<34→(Lj cs 29 #[.int .i64 k1,.int .i64 k2,.int .i64 o,.int .i64 v,.int .i64 k5])[k]? = (#[.int .i64 k1,.int .i64 k2,.int .i64 o,.int .i64 v,.int .i64 k5]:Array Value)[k-29]? := fun k h1 h2=>by rw[Cs hz,if_neg (by omega),if_pos (by rw[hs];omega)]
 have hg:=Eo w g (Lj cs 29 #[.int .i64 k1,.int .i64 k2,.int .i64 o,.int .i64 v,.int .i64 k5]);exact { h with
  blk:=An.setRow h.blk _
  doer:=⟨B,d,{
   size:=by rw[Q8 hz];exact h1.size
   text:=by rw[lo 0 (by omega)];exact h1.text
   at_:=by rw[lo 1 (by omega)];exact h1.at_
   regs:=fun j hj=>by rw[lo _ (by omega)];exact h1.regs j hj
   c29:=by rw[mid 29 (by omega) (by omega)];rfl
   c30:=by rw[mid 30 (by omega) (by omega)];rfl
   c31:=by rw[mid 31 (by omega) (by omega)];rfl
   c32:=by rw[mid 32 (by omega) (by omega)];rfl
   c33:=by rw[mid 33 (by omega) (by omega)];rfl
   out:=by rw[hi 34 (by omega)];exact h1.out
   oat:=by rw[hi 35 (by omega)];exact h1.oat
   oregs:=fun j hj=>let ⟨u,h3,h4⟩:=h1.oregs j hj;⟨u,by rw[hi _ (by omega)];exact h3,h4.grown hg (Bx g)⟩
   far:=fun j hj u hu=>h1.far j hj u (by rw[hi _ (by omega)]at hu;exact hu)
   c63:=by rw[hi 63 (by omega)];exact h1.c63
   c64:=by rw[hi 64 (by omega)];exact h1.c64
   c65:=by rw[hi 65 (by omega)];exact h1.c65
   c66:=by rw[hi 66 (by omega)];exact h1.c66 },Av.grown h2 hg (Bx g)⟩
  ext:=h.ext.turned hg h.base }
theorem yN (k1 k2 o v k5:Int):(#[.int .i64 k1,.int .i64 k2,.int .i64 o,.int .i64 v,.int .i64 k5]:Array Value).all (·.oneCell')=true:=by simp[Value.oneCell']
theorem Zg:(Tryz.prog.info? 87).map (·.size)=some 5:=by kernel_rfl
theorem mU {g n c a:Nat}{POk:Prop}(h:Ep v0 w g cs A n c a rs rl k1 k2 k3 k4 k5 fk fa l)(hk3:k3=0∨k3=100∨k3=99∨k3=121)
 (HP:Mc k4=false→(Hr k3 k4)=(0,k4)→∀wx,Al w wx→Calls Tryz.prog 121 #[.pointer (some ⟨g,0,none⟩)] wx (Ch g wx POk PPost)):
 Calls Tryz.prog 111 #[.pointer (some ⟨g,0,none⟩)] w (Ch g w (Lz l n a rl k1 k2 (Hr k3 k4).1 (Hr k3 k4).2 k5 fk fa POk) (Fr g l n a rl k1 k2 (Hr k3 k4).1 (Hr k3 k4).2 k5 fk fa PPost)):=by
 have hop:=sJ (v:=k4) hk3;obtain⟨o,ho⟩:∃o,(Hr k3 k4).1=o:=⟨_,rfl⟩;obtain⟨v,hv⟩:∃v,(Hr k3 k4).2=v:=⟨_,rfl⟩;have hov:Hr k3 k4=(o,v):=by rw[←ho,←hv]
 rw[ho,hv];rw[ho]at hop;have HPl:Hid (Mc k4=false→(o,v)=(0,k4)→∀wx,Al w wx→Calls Tryz.prog 121 #[.pointer (some ⟨g,0,none⟩)] wx (Ch g wx POk PPost)):=A4 (by rw[hov]at HP;exact HP)
 obtain⟨h0,h1,hrs,h29,h30,h31,h32,h33⟩:=h.cells;have HI:=A4 h;have HOV:=A4 hov;have HOP:=A4 hop;have hb:=h.blk;have x29:w.cell? ⟨g,29,none⟩=some (.int .i64 k1):=(hb.cell 29).trans h29;have x30:w.cell? ⟨g,30,none⟩=some (.int .i64 k2):=(hb.cell 30).trans h30;have x31:w.cell? ⟨g,31,none⟩=some (.int .i64 k3):=(hb.cell 31).trans h31;have x32:w.cell? ⟨g,32,none⟩=some (.int .i64 k4):=(hb.cell 32).trans h32;have x33:w.cell? ⟨g,33,none⟩=some (.int .i64 k5):=(hb.cell 33).trans h33;have hgz:Hid (cs.size=67):=A4 h.mid.out.size;clear h h0 h1 hrs h29 h30 h31 h32 h33 hb ho hv hov hop HP hk3;go_enter Tryz.func111,Tryz.ntmps111
 go_upto_if 13 with fail
 go_cut [] (fun wx=>∃cs',Hid (Ep v0 wx g cs' A n c a rs rl k1 k2 o v k5 fk fa l)∧Hid (w.grownBy wx (some g))∧Hid (o=0→Al w wx∧v=k4))
 case first=>
  by_cases hk:k3=0
  case neg=>
   have hkb:(k3==0)=false:=by simp[hk]
   have HE:Hid (o=k3∧v=k4):=A4 (by
    have:=HOV.out;unfold Hr at this;rw[if_neg hk]at this;injection this with h1 h2;exact⟨h1.symm,h2.symm⟩)
   go_wp2_with fail
   go_meet
   exact⟨cs,A4 (by rw[HE.out.1,HE.out.2];exact HI.out),A4 ⟨rfl,rfl,rfl,Ai _,fun _ _ _=>rfl⟩,A4 fun _=>⟨Al.refl _,HE.out.2⟩⟩
  subst hk;have HSh:=A4 (gF (k1:=k1) (k2:=k2) (k4:=k4) (k5:=k5) w);go_wp2_with fail
  refine HSh.out.mono ?_
  rintro e w1 ⟨⟨o',v',b,rfl,hs⟩,hx1⟩;have HS:=A4 hs;have hx2:=A4 (hx1.trans (Al.alloc w1 (.cells #[.int .i64 k1,.int .i64 k2,.int .i64 o',.int .i64 v',.int .i64 k5] 87)));have hb2:=A4 (An.new w1 87 #[.int .i64 k1,.int .i64 k2,.int .i64 o',.int .i64 v',.int .i64 k5]);clear x29 x30 x31 x32 x33 HSh hx1 hs;go_upto_region 3 with fail
  change Code.wp _ _ _ _ (w1.alloc (.cells #[.int .i64 k1,.int .i64 k2,.int .i64 o',.int .i64 v',.int .i64 k5] 87));generalize w1.alloc (.cells #[.int .i64 k1,.int .i64 k2,.int .i64 o',.int .i64 v',.int .i64 k5] 87)=w2 at*;generalize w1.heap.size=p at*;have HE:Hid (o=o'∧v=v'∧(b=false→o'=0∧v'=k4)):=A4 (by
   have:=HOV.out;unfold Hr at this;rw[if_pos rfl]at this;rcases HS.out with⟨rfl,h1⟩|⟨rfl,h1,rfl,rfl⟩
   ·rw[h1]at this
    injection this with h2 h3;exact⟨h2.symm,h3.symm,fun h=>by cases h⟩
   ·rw[h1]at this
    injection this with h2 h3;exact⟨h2.symm,h3.symm,fun _=>⟨rfl,rfl⟩⟩)
  have HE0:Hid (b=true→o'≠0):=A4 (by
   rintro rfl h;rcases HS.out with⟨_,h1⟩|⟨h1,_⟩
   ·have:=R9 h1
    simp at this;omega
   ·cases h1)
  have HB0:Hid (b=false→o=0∧v=k4):=A4 (fun h=>by
   obtain⟨h1,h2,h3⟩:=HE.out;obtain⟨h4,h5⟩:=h3 h;exact⟨h1.trans h4,h2.trans h5⟩)
  obtain⟨e1,e2⟩:o'=o∧v'=v:=⟨HE.out.1.symm,HE.out.2.1.symm⟩;subst e1;subst e2;have HI2:=A4 (HI.out.wext hx2.out);clear HE HS;cases b
  ·have HB1:=A4 (HB0.out rfl)
   have HI3:Hid (Ep v0 w2 g cs A n c a rs rl k1 k2 o' v' k5 fk fa l):=A4 (by rw[HB1.out.1,HB1.out.2];exact HI2.out)
   clear HB0 HE0;go_wp2_with fail
   go_meet
   exact⟨cs,HI3,A4 (Ev hx2.out _),A4 fun _=>⟨hx2.out,HB1.out.2⟩⟩
  ·have HE1:=A4 (HE0.out rfl)
   have HI3:=A4 (HI2.out.setCmd o' v');clear HB0 HE0;go_wp2_with (first
    |(refine wpList_load_row rfl 87 (.tmp 3) rfl p rfl 87 #[.int .i64 k1,.int .i64 k2,.int .i64 o',.int .i64 v',.int .i64 k5] (0,0) _ hb2.out Tryz.underlying87 rfl Zg ?_)
    |(refine Jk rfl 87 (.tmp 26) (.tmp 24) rfl g 29 #[.int .i64 k1,.int .i64 k2,.int .i64 o',.int .i64 v',.int .i64 k5] rfl rfl 185 cs HI2.out.blk Zg (by rw[hgz.out];exact(by decide:34≤67)) (yN _ _ _ _ _) ?_))
   go_meet
   exact⟨_,HI3,A4 (Co (Ev hx2.out _) (Eo _ _ _)),A4 fun h=>absurd h HE1.out⟩
 case rest=>
  obtain⟨cs',HI',HG',HE'⟩:=hcut;clear HI hgz x29 x30 x31 x32 x33;have h:=HI'.out;obtain⟨h0,h1,hrs,h29,h30,h31,h32,h33⟩:=h.cells;have hb:=h.blk;have c32:wc.cell? ⟨g,32,none⟩=some (.int .i64 v):=(hb.cell 32).trans h32;have HC:Hid (cs'[0]? = some (.slice A n c)∧cs'[1]? = some (.int .i64 (a:Int))∧cs'[31]? = some (.int .i64 o)∧cs'[32]? = some (.int .i64 v)∧cs'[33]? = some (.int .i64 k5)):=A4 ⟨h0,h1,h31,h32,h33⟩;clear h h0 h1 hrs h29 h30 h31 h32 h33 hb;go_upto_if 32 with fail
  go_cut [32] (fun u wx=>u=.bool (Mc v)∧wx=wc)
  case first=>
   clear c32;go_wp2_with fail
   all_goals
    go_meet
    refine⟨?_,rfl⟩
    unfold Mc;clear HPl HOV HOP HI' HG' HE' HC;simp only[*,Bool.true_or,Bool.or_true,Bool.false_or,Bool.or_false]
  case rest=>
   obtain⟨rfl,hw⟩:=hcut;subst hw;by_cases hm:Mc v=true
   ·have HMv:=A4 (rD HI'.out HOP.out)
    have HM:=A4 hm;rw[hm];clear hm;go_wp2_with fail
    refine HMv.out.mono ?_
    rintro e w3 hd;have HF:Hid (Ch g w (Lz l n a rl k1 k2 o v k5 fk fa POk) (Fr g l n a rl k1 k2 o v k5 fk fa PPost) e w3):=A4 (hd.from HG'.out (fun h=>h.1 HM.out) (fun cs h=>.inl ⟨HM.out,h⟩))
    obtain⟨er,cs3,rfl,_⟩:=hd;clear HMv;go_wp2_with fail
    go_ret
    exact HF.out
   have hmf:Mc v=false:=by simpa using hm
   have HM:=A4 hmf;rw[hmf];clear hm hmf;by_cases ho:o=0
   ·subst ho
    have hE:=HE'.out rfl;have HPc:=A4 (HPl.out (by rw[←hE.2];exact HM.out) (by rw[hE.2]) _ hE.1)
    clear hE;have c31:=HI'.out.mid.cell (k:=31) (by omega) HC.out.2.2.1
    go_wp2_with fail
    refine HPc.out.mono ?_
    rintro e w3 hd;have HF:Hid (Ch g w (Lz l n a rl k1 k2 0 v k5 fk fa POk) (Fr g l n a rl k1 k2 0 v k5 fk fa PPost) e w3):=A4 (hd.from HG'.out (fun h=>h.2.1 HM.out rfl) (fun cs h=>.inr (.inl ⟨HM.out,rfl,h⟩)))
    obtain⟨er,cs3,rfl,_⟩:=hd;clear HPc;go_wp2_with fail
    go_ret
    exact HF.out
   have hob:(o==0)=false:=by simp[ho]
   have HO:=A4 ho;have HO3:Hid (o=100∨o=99∨o=121):=A4 (HOP.out.resolve_left ho);clear ho;have c31:=HI'.out.mid.cell (k:=31) (by omega) HC.out.2.2.1
   go_upto_region 28 with fail
   go_quiet (fail)
   have HXq:=A4 (Al.drewN wc nq);have HIq:=A4 (HI'.out.wext HXq.out);have HGq:=A4 (Co HG'.out (Ev HXq.out (some g)));clear c31 c32;generalize wc.drewN nq=wd at*;have c0:=HIq.out.mid.cell (k:=0) (by omega) HC.out.1
   have c1:=HIq.out.mid.cell (k:=1) (by omega) HC.out.2.1
   have c31:=HIq.out.mid.cell (k:=31) (by omega) HC.out.2.2.1
   have c32:=HIq.out.mid.cell (k:=32) (by omega) HC.out.2.2.2.1
   have c33:=HIq.out.mid.cell (k:=33) (by omega) HC.out.2.2.2.2
   by_cases hvo:v=o
   ·have hvb:(v==o)=true:=by simp[hvo]
    have HV:=A4 hvo;have HOp:Hid (Calls Tryz.prog 122 #[.pointer (some ⟨g,0,none⟩),.int .i64 0,.int .i64 (n:Int),.bool true] wd (Ch g wd (Uw l rl k2 o 0 n) (aX g l a rl k2 o fk fa 0 n true))):=A4 (Pb (f:=0) (t:=n) HIq.out (Aw _) (Ai _) HO3.out);clear hvo;go_wp2_with fail
    refine HOp.out.mono ?_
    rintro e w3 hd;have HF:Hid (Ch g w (Lz l n a rl k1 k2 o v k5 fk fa POk) (Fr g l n a rl k1 k2 o v k5 fk fa PPost) e w3):=A4 (hd.from HGq.out (fun h=>(h.2.2 HM.out HO.out).same HV.out) (fun cs h=>by
     obtain⟨m,at_,md,rl',e',h1,h2⟩:=h;exact .inr (.inr ⟨HM.out,HO.out,0,n,true,m,at_,md,rl',e',Aw _,Ai _,.inl ⟨HV.out,rfl,rfl,rfl⟩,h1,h2⟩)))
    obtain⟨er,cs3,rfl,_⟩:=hd;clear HOp c0 c1 c31 c32 c33;go_wp2_with fail
    go_ret
    exact HF.out
   have hvb:(v==o)=false:=by simp[hvo]
   have HV:=A4 hvo;clear hvo;by_cases hia:v=105∨v=97
   case neg=>
    have h1:(v !=105)=true:=by simp;omega
    have h2:(v !=97)=true:=by simp;omega
    have HF:Hid (Ch g w (Lz l n a rl k1 k2 o v k5 fk fa POk) (Fr g l n a rl k1 k2 o v k5 fk fa PPost) (.returned (.int .i64 9)) wd):=A4 ⟨9,cs',rfl,HGq.out,fun h=>((h.2.2 HM.out HO.out).none HV.out hia).elim,fun h=>by cases h⟩
    clear hia;go_wp2_with fail
    go_ret
    exact HF.out
   case pos=>
    have HIA:=A4 hia;have hln:=A4 HIq.out.line.len;rcases hia with hv|hv
    ·have N0:=trivial;exact zV
    ·have N1:=trivial;exact zV
structure Je (w:World)(b:Nat)(vs:Array Value)(m:List Int)(at_ md fk fa:Int)(rl:Nat→List Int)(e:List Fh):Prop where
 size:vs.size=33
 one:vs.all (·.oneCell')=true
 text:∃B q d,vs[0]? = some (.slice B q d)∧Av w b B q d m
 oat:vs[1]? = some (.int .i64 at_)
 regs:∀j,j<27→∃v,vs[2+j]? = some v∧Bg w b v (rl j)
 c29:vs[29]? = some (.int .i64 fk)
 c30:vs[30]? = some (.int .i64 fa)
 c31:vs[31]? = some (.int .i64 md)
 edit:∃v,vs[32]? = some v∧Dq w b v e
 far:∀B q d,vs[0]? = some (.slice B q d)→∀g',(Value.slice B q d).ownBlock=some g'→(∀j,j<27→∀v,vs[2+j]? = some v→v.ownBlock≠some g')∧∃v,vs[32]? = some v∧Dq w (g'+1) v e
theorem Do.res {b b':Nat}(h:Do w b cs m at_ md fk fa rl e)(h1:(cs.extract 34 67).all (·.oneCell')=true)(hb:b'≤b):Je w b' (cs.extract 34 67) m at_ md fk fa rl e:=by
 have hz:=h.size;have hx:∀k,k<33→(cs.extract 34 67)[k]? = cs[34+k]? := fun k hk=>by rw[Array.getElem?_extract,if_pos (by omega)]
 exact {
  size:=by simp[hz]
  one:=h1
  text:=let ⟨B,q,d,h2,h3⟩:=h.text;⟨B,q,d,by rw[hx 0 (by omega)];exact h2,Ay.lower h3 hb⟩
  oat:=by rw[hx 1 (by omega)];exact h.oat
  regs:=fun j hj=>let ⟨v,h2,h3⟩:=h.regs j hj;⟨v,by rw[hx _ (by omega),show 34+(2+j)=36+j by omega];exact h2,h3.lower hb⟩
  c29:=by rw[hx 29 (by omega)];exact h.c63
  c30:=by rw[hx 30 (by omega)];exact h.c64
  c31:=by rw[hx 31 (by omega)];exact h.c65
  edit:=let ⟨v,h2,h3⟩:=h.edit;⟨v,by rw[hx 32 (by omega)];exact h2,h3.lower hb⟩
  far:=fun B q d h0 g' hg'=>by
   rw[hx 0 (by omega)]at h0
   obtain⟨h2,v,h3,h4⟩:=h.far B q d h0 g' hg';exact⟨fun j hj u hu=>by rw[hx _ (by omega),show 34+(2+j)=36+j by omega]at hu;exact h2 j hj u hu,v,by rw[hx 32 (by omega)];exact h3,h4⟩ }
theorem Je.ext {w w':World}{b:Nat}{vs:Array Value}(h:Je w b vs m at_ md fk fa rl e)(he:Al w w'):Je w' b vs m at_ md fk fa rl e:=
 {
  h with
  text:=let ⟨B,q,d,h1,h2⟩:=h.text;⟨B,q,d,h1,Ay.ext h2 he⟩
  regs:=fun j hj=>let ⟨v,h1,h2⟩:=h.regs j hj;⟨v,h1,h2.ext he⟩
  edit:=let ⟨v,h1,h2⟩:=h.edit;⟨v,h1,h2.ext he⟩
  far:=fun B q d h0 g' hg'=>let ⟨h1,v,h2,h3⟩:=h.far B q d h0 g' hg';⟨h1,v,h2,h3.ext he⟩ }
def P6 (n:Nat)(a k1 fk k3:Int):Prop:=(n≤200∧0≤a∧a≤max 0 ((n:Int)-1))∧(0≤k1∧k1≤999)∧kT fk k3
theorem wC {n c:Nat}{a fk fa k1 k2 k3 k4 k5:Int}{Ok:Prop}{Post:World→Array Value→Prop}(hl:Bi w A n c l)(wl:∀x∈l,(Lit.int .i64 x).wf=true)(hA:A=none→c=0)(hr:Ka w rs rl)
 (hP:∀w1 w2 cs,Post w1 cs→w1.grownBy w2 (some (w.heap.size+1+1+1+1))→Post w2 cs)
 (H1:P6 n a k1 fk k3→∀(wz:World) (g:Nat) (cs:Array Value),w.heap.size+5≤g→Ep w wz g cs A n c a.toNat rs rl k1 k2 k3 k4 k5 fk fa l→
  Calls Tryz.prog 111 #[.pointer (some ⟨g,0,none⟩)] wz (Ch g wz Ok Post)):
 Calls Tryz.prog 91 #[.agg #[.slice A n c,.int .i64 a],.agg rs,.agg #[.int .i64 fk,.int .i64 fa],.agg #[.int .i64 k1,.int .i64 k2,.int .i64 k3,.int .i64 k4,.int .i64 k5]] w (kU w (P6 n a k1 fk k3∧Ok) Post):=by
 by_cases hv:(n≤200∧0≤a∧a≤max 0 ((n:Int)-1))∧(0≤k1∧k1≤999)
 ·obtain⟨⟨hn,ha,ha2⟩,hk,hk2⟩:=hv
  refine(oJ (Ok:=Ok) (Post:=Post) hl hA hr hn ha ha2 hk hk2 hP ?_).mono fun e w' ⟨h1,h2⟩=>⟨h1,h2.imp (fun⟨h3,h4⟩=>⟨fun h=>h3 ⟨h.1.2.2,h.2⟩,h4⟩) id⟩
  intro hf wz g cs B d hx hg hb hd ho hB;refine H1 ⟨⟨hn,ha,ha2⟩,⟨hk,hk2⟩,hf⟩ wz g cs hg ?_
  have hat:((a.toNat:Nat):Int)=a:=by omega
  exact { blk:=hb,doer:=⟨B,d,by rw[hat];exact hd,ho⟩,ext:=hx,base:=by omega,regs:=hr,line:=hl,cap:=hA,len:=hn,place:=by omega,nums:=wl,cnt:=⟨hk,hk2⟩ }
 ·refine(wB (Ok:=P6 n a k1 fk k3∧Ok) (Post:=Post) (Nat.le_trans hl.ncap hl.nmax) ?_ (fun h=>hv ⟨h.1.1,h.1.2.1⟩))
  rcases Classical.em (n≤200∧0≤a∧a≤max 0 ((n:Int)-1))with h1|h1
  ·exact .inr (fun h2=>hv ⟨h1,h2⟩)
  ·exact .inl h1
def wM (l:List Int)(n a:Nat)(k1 o v k5 fk fa:Int)(f t:Nat)(whole:Bool)(zk za:Int):Prop:=
 (Mc v=true∧whole=false∧∃mk ma,Gl fk fa v k5=some (mk,ma,zk,za)∧J8 l n a mk k1 ma f t)∨(Mc v=false∧zk=fk∧za=fa∧Qz l n a o v k5 f t whole)
def wN (b:Nat)(l:List Int)(n:Nat)(a:Int)(rl:Nat→List Int)(k1 k2 o v k5 fk fa:Int)(w:World)(cs:Array Value):Prop:=
 ∃g f t whole m at_ md zk za rl' e,b≤g∧f≤t∧t≤n∧Do w (g+1) cs m at_ md zk za rl' e∧Kr l a.toNat rl k2 o f t whole m at_ md rl' e∧wM l n a.toNat k1 o v k5 fk fa f t whole zk za
theorem Fr.op {g b n a:Nat}{k1 k2 o v k5 fk fa:Int}(h:Fr g l n a rl k1 k2 o v k5 fk fa PPost w cs)(ho:o≠0)(hb:b≤g)(ha:a≤n-1):wN b l n a rl k1 k2 o v k5 fk fa w cs:=by
 rcases h with⟨hm,mk,ma,zk,za,hf,h|⟨_,f,t,m,at_,md,rl',e,hr,h1,h2⟩⟩|⟨_,h,_⟩|⟨hm,_,f,t,whole,m,at_,md,rl',e,h1,h2,h3,h4,h5⟩
 ·exact absurd h.1 ho
 ·have hbd:=hr.bd ha
  exact⟨g,f,t,false,m,at_,md,zk,za,rl',e,hb,hbd.2.2.1,hbd.2.2.2,h1,h2,.inl ⟨hm,rfl,mk,ma,hf,hr⟩⟩
 ·exact absurd h ho
 ·exact⟨g,f,t,whole,m,at_,md,fk,fa,rl',e,hb,h1,h2,h4,h5,.inr ⟨hm,rfl,rfl,h3⟩⟩
end
