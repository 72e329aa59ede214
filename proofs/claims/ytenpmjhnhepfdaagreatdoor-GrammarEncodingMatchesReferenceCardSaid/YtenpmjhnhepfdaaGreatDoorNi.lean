/-
  The row of numbers of a grammar is not longer than its encoding; small encodings are of small grammars.
-/
import Derived.Test.YtenpmjhnhepfdaaGreatDoorLh
import Derived.Test.YtenpmjhnhepfdaaGreatDoorEa
import Derived.Test.YtenpmjhnhepfdaaGreatDoorEx
import Derived.Test.YtenpmjhnhepfdaaGreatDoorJk
import Derived.Test.YtenpmjhnhepfdaaGreatDoorGkoinelaw05
import Derived.Test.YtenpmjhnhepfdaaGreatDoorLg
import Derived.Test.YtenpmjhnhepfdaaGreatDoorMz
import Derived.Test.YtenpmjhnhepfdaaGreatDoorTopk
namespace Go.Proofs.YtenpmjhnhepfdaaGreatDoor
open Go Go.Proofs.Tryz Tr
set_option maxRecDepth 10000
section
variable {F G:PH} {s:Sl} {l:Φ}
theorem II (t:Tk):1<=(kL t).length:=by unfold kL;simp only [N3,XJ];omega
theorem KL (t:Pr):1<=(wPr t).length:=by unfold wPr;simp only [N3,XI];omega
theorem KM (t:Lv):1<=(wLv t).length:=by unfold wLv;simp only [N3,XJ];omega
theorem KN (t:Fi):1<=(wFi t).length:=by unfold wFi;simp only [N3,XI];omega
theorem jt {v:Γ} {g:Gr} (hg:GV F v g) (hl:(wGr g).length<=400000000000):ae prog 45 #[.agg v] F λr F'=>∃s',r=Sl.v s'/\RdS F' s' 1 ((wGr g).map vi)/\F.le F':=by
 obtain ⟨c,n,t,s,p,y,f,rfl,hs⟩:=hg;have ec:=hs.c.len (by decide);have et:=hs.t.len (by decide);have es:=hs.s.len (by decide);have ep:=hs.p.len (by decide);have ey:=hs.l.len (by decide);have ef:=hs.f.len (by decide);unfold wGr at hl ⊢;refine Xd ?_;unfold Um;refine (St.start F).newG λb1 G1 F1 l1 q1 _ h=>⟨_,ld (h.le _ _ q1) rfl,?_⟩;dsimp only;rw [ec];refine h.new λb15 F2 h=> ?_;have h:Ou G1 F2 _ [(g.conds.length:Int)]:=h.imp (A':=own (Sl.mk (some (Addr.mk b15 0 none)) 1 1) 3 1 ([(g.conds.length:Int)].map vi)) 0 rfl λH _ hH=>Dm hH rfl;refine jy g.conds cx uu (Ay · b1 _) h (by simp only [N3] at hl ⊢;omega) λk G2 F3 s2 l' N hk l2 h next fin=> ?_;have q2:=l2 _ _ q1;have l12:=aa l1 l2;unfold Ay;refine ⟨_,ld (h.le _ _ q2) rfl,λhlt=> ?_,λhge=> ?_⟩
 ·have hlt:k<g.conds.length:=by omega
  refine ⟨_,ld (h.le _ _ q2) rfl,h.ix (hs.c.le l12) (by decide) (by omega) (by omega) λa c' x hx hrow hc=> ?_⟩;rw [N5] at hx;obtain ⟨n1,n0,n2⟩:=next x hx;rw [show c'= #[.string x] from hc] at hrow;refine ⟨_,aI hrow rfl,?_⟩;refine (fU h n1).mono ?_;rintro _ F4 ⟨s4,G4,rfl,l4,h⟩;refine ⟨_,rfl,?_⟩;rw [aE hlt (by omega)];exact n2 _ _ _ l4 h
 rw [fin (by omega)] at h;clear next fin;unfold Iy;refine ⟨#[n.v,vi g.fam.2],rfl,fo (h.le _ _ q2) rfl,?_⟩;refine (jz (d:=g.fam) (DV.mk (hs.n.le l12)) h (by simp only [N3] at hl ⊢;omega)).mono ?_;rintro _ F4 ⟨s4,G4,rfl,l4,h⟩;have q4:=l4 _ _ q2;refine ⟨_,rfl,_,ld (h.le _ _ q4) rfl,?_⟩;dsimp only;rw [et];refine bM h [(g.toks.length:Int)] (by simp only [N3] at hl ⊢;omega) λs5 G5 F5 l5 h=> ?_;have q5:=l5 _ _ q4;have l15:=aa l12 (aa l4 l5);refine jy g.toks kL II (Ax · b1 _) h (by simp only [N3] at hl ⊢;omega) λk G6 F6 s6 l' N hk l6 h next fin=> ?_;have q6:=l6 _ _ q5;have l16:=aa l15 l6;unfold Ax;refine ⟨_,ld (h.le _ _ q6) rfl,λhlt=> ?_,λhge=> ?_⟩
 ·have hlt:k<g.toks.length:=by omega
  refine ⟨_,ld (h.le _ _ q6) rfl,h.ix (hs.t.le l16) (by decide) (by omega) (by omega) λa c' x hx hrow hc=> ?_⟩;rw [N5] at hx;obtain ⟨n1,n0,n2⟩:=next x hx;refine ⟨_,Mem.len hc,hrow,?_⟩;refine (IM hc h n1).mono ?_;rintro _ F4 ⟨s4,G4,rfl,l4,h⟩;refine ⟨_,rfl,?_⟩;rw [aE hlt (by omega)];exact n2 _ _ _ l4 h
 rw [fin (by omega)] at h;clear next fin;unfold Iw;refine ⟨_,ld (h.le _ _ q6) rfl,?_⟩;dsimp only;rw [es];refine bM h [(g.nons.length:Int)] (by simp only [N3] at hl ⊢;omega) λs7 G7 F7 l7 h=> ?_;have q7:=l7 _ _ q6;have l17:=aa l16 l7;refine jy g.nons cx uu (Aw · b1 _) h (by simp only [N3] at hl ⊢;omega) λk G8 F8 s8 l' N hk l8 h next fin=> ?_;have q8:=l8 _ _ q7;have l18:=aa l17 l8;unfold Aw;refine ⟨_,ld (h.le _ _ q8) rfl,λhlt=> ?_,λhge=> ?_⟩
 ·have hlt:k<g.nons.length:=by omega
  refine ⟨_,ld (h.le _ _ q8) rfl,h.ix (hs.s.le l18) (by decide) (by omega) (by omega) λa c' x hx hrow hc=> ?_⟩;rw [N5] at hx;obtain ⟨n1,n0,n2⟩:=next x hx;rw [show c'= #[.string x] from hc] at hrow;refine ⟨_,aI hrow rfl,?_⟩;refine (fU h n1).mono ?_;rintro _ F4 ⟨s4,G4,rfl,l4,h⟩;refine ⟨_,rfl,?_⟩;rw [aE hlt (by omega)];exact n2 _ _ _ l4 h
 rw [fin (by omega)] at h;clear next fin;unfold Iv;refine ⟨_,ld (h.le _ _ q8) rfl,?_⟩;dsimp only;rw [ep];refine bM h [(g.prods.length:Int)] (by simp only [N3] at hl ⊢;omega) λs9 G9 F9 l9 h=> ?_;have q9:=l9 _ _ q8;have l19:=aa l18 l9;refine jy g.prods wPr KL (Av · b1 _) h (by simp only [N3] at hl ⊢;omega) λk Ga Fa sa l' N hk la h next fin=> ?_;have qa:=la _ _ q9;have l1a:=aa l19 la;unfold Av;refine ⟨_,ld (h.le _ _ qa) rfl,λhlt=> ?_,λhge=> ?_⟩
 ·have hlt:k<g.prods.length:=by omega
  refine ⟨_,ld (h.le _ _ qa) rfl,h.ix (hs.p.le l1a) (by decide) (by omega) (by omega) λa c' x hx hrow hc=> ?_⟩;rw [N5] at hx;obtain ⟨n1,n0,n2⟩:=next x hx;refine ⟨_,Mem.len hc,hrow,?_⟩;refine (EA hc h n1).mono ?_;rintro _ F4 ⟨s4,G4,rfl,l4,h⟩;refine ⟨_,rfl,?_⟩;rw [aE hlt (by omega)];exact n2 _ _ _ l4 h
 rw [fin (by omega)] at h;clear next fin;unfold Iu;refine ⟨_,ld (h.le _ _ qa) rfl,_,ld (h.le _ _ qa) rfl,?_⟩;dsimp only;rw [ey];refine bM h [g.start,(g.lvs.length:Int)] (by simp only [N3] at hl ⊢;omega) λsb Gb Fb lb h=> ?_;have qb:=lb _ _ qa;have l1b:=aa l1a lb;refine jy g.lvs wLv KM (Au · b1 _) h (by simp only [N3] at hl ⊢;omega) λk Gc Fc sc l' N hk lc h next fin=> ?_;have qc:=lc _ _ qb;have l1c:=aa l1b lc;unfold Au;refine ⟨_,ld (h.le _ _ qc) rfl,λhlt=> ?_,λhge=> ?_⟩
 ·have hlt:k<g.lvs.length:=by omega
  refine ⟨_,ld (h.le _ _ qc) rfl,h.ix (hs.l.le l1c) (by decide) (by omega) (by omega) λa c' x hx hrow hc=> ?_⟩;rw [N5] at hx;obtain ⟨n1,n0,n2⟩:=next x hx;unfold wLv at n1 n2;simp only [<- Xz] at n1 n2;refine ⟨_,Mem.len hc,hrow,?_⟩;refine h.var (Mem.st hc) (λb9 Gd Fd ldd qd h=> ?_) rfl (Mem.len hc);have hc:=Mem.le ldd hc;obtain ⟨xp,xn,rfl,k1,k2⟩:=hc;refine ⟨_,ld (h.le _ _ qd) rfl,?_⟩;refine (uy k1 h (by simp only [N3] at n1 ⊢;omega)).mono ?_;rintro _ Fe ⟨se,Ge,rfl,le,h⟩;have qe:=le _ _ qd;refine ⟨_,rfl,_,ld (h.le _ _ qe) rfl,#[xn.v,vi x.cond.2],rfl,fo (h.le _ _ qe) rfl,?_⟩;refine bM h [x.assoc] (by simp only [N3] at n1 ⊢;omega) λsg Gg Fg lg h=> ?_;refine ⟨fo (h.le _ _ (lg _ _ qe)) rfl,?_⟩;have lg2:=aa le lg;refine (jz (d:=x.cond) (DV.mk (k2.le lg2)) h n1).mono ?_;rintro _ F4 ⟨s4,G4,rfl,l4,h⟩;refine ⟨_,rfl,?_⟩;rw [aE hlt (by omega)];exact n2 _ _ _ (aa ldd (aa lg2 l4)) h
 rw [fin (by omega)] at h;clear next fin;unfold It;refine ⟨_,ld (h.le _ _ qc) rfl,?_⟩;dsimp only;rw [ef];refine bM h [(g.fils.length:Int)] (by simp only [N3] at hl ⊢;omega) λsd Gd Fd ldd h=> ?_;have qd:=ldd _ _ qc;have l1d:=aa l1c ldd;refine jy g.fils wFi KN (At · b1 _) h (by simp only [N3] at hl ⊢;omega) λk Ge Fe se l' N hk lee h next fin=> ?_;have qe:=lee _ _ qd;have l1e:=aa l1d lee;unfold At;refine ⟨_,ld (h.le _ _ qe) rfl,λhlt=> ?_,λhge=> ?_⟩
 ·have hlt:k<g.fils.length:=by omega
  refine ⟨_,ld (h.le _ _ qe) rfl,h.ix (hs.f.le l1e) (by decide) (by omega) (by omega) λa c' x hx hrow hc=> ?_⟩;rw [N5] at hx;obtain ⟨n1,n0,n2⟩:=next x hx;unfold wFi at n1 n2;simp only [<- Xz] at n1 n2;refine ⟨_,Mem.len hc,hrow,?_⟩;refine h.var (Mem.st hc) (λb9 Gf Ff lf qf h=> ?_) rfl (Mem.len hc);have hc:=Mem.le lf hc;obtain ⟨xt,xn,rfl,k1,k2⟩:=hc;refine ⟨_,ld (h.le _ _ qf) rfl,_,ld (h.le _ _ qf) rfl,_,ld (h.le _ _ qf) rfl,_,ld (h.le _ _ qf) rfl,_,ld (h.le _ _ qf) rfl,_,ld (h.le _ _ qf) rfl,?_⟩;refine bM h [x.k,x.par,x.pos,x.ch,x.left,x.tok] (by simp only [N3] at n1 ⊢;omega) λsg Gg Fg lg h=> ?_;have qg:=lg _ _ qf;refine ⟨_,ld (h.le _ _ qg) rfl,#[xn.v,vi x.cond.2],rfl,fo (h.le _ _ qg) rfl,?_⟩;refine (uy (k1.le lg) h (by simp only [N3] at n1 ⊢;omega)).mono ?_;rintro _ Fh ⟨sh,Gh,rfl,lh,h⟩;refine ⟨_,rfl,fo (h.le _ _ (lh _ _ qg)) rfl,?_⟩;have lg2:=aa lg lh;refine (jz (d:=x.cond) (DV.mk (k2.le lg2)) h n1).mono ?_;rintro _ F4 ⟨s4,G4,rfl,l4,h⟩;refine ⟨_,rfl,?_⟩;rw [aE hlt (by omega)];exact n2 _ _ _ (aa lf (aa lg2 l4)) h
 rw [fin (by omega)] at h;unfold Is;exact ⟨_,rfl,bj.rd (St.ownAt h (i:=0) rfl).1,aa l1e h.le⟩
theorem wI {x y:Sl} {xs:Φ} (hx:RdS F x 1 (xs.map vi)) (hy:RdS F y 1 (xs.map vi)) (hl:xs.length<=400000000000):ae prog 60 #[x.v,y.v] F λr F'=>r=.bool true/\F.le F':=by
 have hx':=RL.ints.2 hx;have hy':=RL.ints.2 hy;have ex:=hx'.len (by decide);have ey:=hy'.len (by decide);refine Xs ?_;unfold UC;refine ⟨λhn=>absurd (by rw [ex,ey]) hn,λ_=> ?_⟩;refine bF (AC · x y _) xs.length (λk F'=>F'=F) rfl ?_;rintro k F2 N hk rfl next;unfold AC;refine ⟨λhlt=> ?_,λhge=> ?_⟩
 ·have hlt:k<xs.length:=by omega
  refine ixc hx' (by decide) (by omega) (by omega) λa c z hz hr hc=> ?_;rw [N5] at hz;rw [show c= #[vi z] from hc] at hr;refine ⟨z,aI hr rfl,?_⟩;refine ixc hy' (by decide) (by omega) (by omega) λa2 c2 z2 hz2 hr2 hc2=> ?_;rw [N5,hz] at hz2;obtain rfl:=X2 hz2;rw [show c2= #[vi z] from hc2] at hr2;refine ⟨z,aI hr2 rfl,λhn=>absurd rfl hn,λ_=> ?_⟩;rw [aE hlt (by omega)];exact next _ hlt rfl
 ·unfold IG;exact ⟨rfl,am _⟩
theorem Ey {v w:Γ} {g:Gr} (hg:GV F v g) (hw:GV F w g) (hl:(wGr g).length<=400000000000):ae prog 18 #[.agg v,.agg w] F λr F'=>r=.bool true/\F.le F':=by refine W5 ?_;unfold Ud;refine fresh λb2 F1 l1 q2 _=> ?_;refine fresh λb3 F2 l2 q3 _=>⟨_,hg.size,aj (l2 _ _ q2),?_⟩;have l12:=aa l1 l2;refine (jt (hg.le l12) hl).mono ?_;rintro _ F3 ⟨s3,rfl,h3,l3⟩;refine ⟨_,rfl,_,hw.size,aj (l3 _ _ q3),?_⟩;refine (jt (hw.le (aa l12 l3)) hl).mono ?_;rintro _ F4 ⟨s4,rfl,h4,l4⟩;refine ⟨_,rfl,?_⟩;refine (wI (h3.le l4) h4 (by have:=hl;omega)).mono ?_;rintro _ F5 ⟨rfl,l5⟩;exact ⟨_,rfl,rfl,aa l12 (aa l3 (aa l4 l5))⟩
end
section
end
theorem i63 {x:Int} (h0:0<=x) (h1:x<=1000000000000):I63 x:=⟨h0,by omega⟩
theorem n63 {n:Nat} (h:n<=1000000000000):N63 n:=by show n<128 ^ 9;omega
theorem yi {d:Dia} (h:chk d=0):pD d/\d.1.length<=4096:=by
 unfold chk at h;split at h
 ·cases h
 rename_i hl;split at h
 ·rename_i hv;obtain ⟨t,hk,rfl⟩:=hv;have hlen:(aO t).length<=4096:=by have:(dia t).1.length=(aO t).length:=aQ _;omega
  refine ⟨⟨⟨n63 (by omega),λb hb=> ?_⟩,?_⟩,by omega⟩
  ·obtain ⟨x,hx,rfl⟩:=X3.1 (show b∈(aO t).map (br (aO t)) from hb);obtain ⟨ok,v,l,r,rfl,hl',hr'⟩:=(cT hk).mem x hx;have h1:=cS hl';have h2:=cS hr';have h3:=ok.1;exact ⟨i63 (by show (0:Int)<=(v:Nat);omega) (by show ((v:Nat):Int)<=_;omega),i63 (by show (0:Int)<=(num _ l:Nat);omega) (by show ((num _ l:Nat):Int)<=_;omega),i63 (by show (0:Int)<=(num _ r:Nat);omega) (by show ((num _ r:Nat):Int)<=_;omega)⟩
  ·have:=cS (cH hk);exact i63 (by show (0:Int)<=(num _ t:Nat);omega) (by show ((num _ t:Nat):Int)<=_;omega)
 ·cases h
theorem PX {l:List Nd} (h:fw l=0):l.length<=512/\∀x∈l,pNd x:=by
 unfold fw at h;split at h
 ·cases h
 rename_i hl;split at h
 ·rename_i hg;refine ⟨by omega,λx hx=> ?_⟩;obtain ⟨i,hi⟩:=List.getElem?_of_mem hx;have hil:=(N6.1 hi).1;obtain ⟨a1,a2,a3,a4,a5,a6,a7⟩:=hg.ok i x hi;have hk:0<=x.k/\x.k<=4:=by
   unfold ar at a1;split at a1
   ·omega
   split at a1
   ·omega
   split at a1
   ·omega
   ·omega
  refine ⟨i63 hk.1 (by omega),?_,?_,?_,?_⟩
  ·by_cases e:x.k=1
   ·have:=a2 e;exact i63 (by omega) (by omega)
   ·rw [(a3 e).1];exact i63 (by omega) (by omega)
  ·by_cases e:x.k=1
   ·have:=a2 e;exact i63 (by omega) (by omega)
   ·rw [(a3 e).2];exact i63 (by omega) (by omega)
  ·by_cases e:ar x.k<1
   ·rw [a4 e];exact i63 (by omega) (by omega)
   ·have:=a6 (by omega);exact i63 (by omega) (by omega)
  ·by_cases e:ar x.k<2
   ·rw [a5 e];exact i63 (by omega) (by omega)
   ·have:=a7 (by omega);exact i63 (by omega) (by omega)
 ·cases h
theorem mM:∀(k n:Nat),n<128 ^ (k+1)->(bQ n).length<=k+1
 |0,n,h=>by rw [bR (by simpa using h)];exact XA _
 |k+1,n,h=>by
  by_cases hn:n<128
  ·rw [bR hn];simp
  ·rw [gK hn,XI];have:=mM k (n / 128) (by rw [YJ] at h;omega);omega
theorem bB {x:Int} (h:I63 x):(eI x).length<=9:=mM 8 _ (by have:=h.1;have:=h.2;omega)
theorem nJ {s:ByteArray} (h:pS s):(eS s).length<=9+s.size:=by unfold eS;rw [N3,aX];have:=mM 8 _ h;omega
theorem mN {α:Type} {f:α->Δ} {M:Nat}:∀{l:List α},(∀x∈l,(f x).length<=M)->(l.flatMap f).length<=l.length*M
 |[],_=>by simp
 |x::l,h=>by rw [XT,N3,XI,YS];have:=h x (by simp);have:=mN (l:=l) λy hy=>h y (by simp [hy]);omega
theorem fE {α:Type} {f:α->Δ} {P:α->Prop} {l:List α} {M k:Nat} (h:pL P l) (hk:l.length<=k) (hM:∀x∈l,(f x).length<=M):(eL f l).length<=9+k*M:=by unfold eL;rw [N3];have h1:=mM 8 _ h.1;have h2:=mN hM;have h3:l.length*M<=k*M:=Yl _ hk;omega
theorem sJ {d:Dia} (h:pD d) (hl:d.1.length<=4096):(eD d).length<=110610:=by
 unfold eD;rw [N3];have h1:=bB h.2;have h2:=fE (f:=eBr) (M:=27) h.1 hl λb hb=>by obtain ⟨h1,h2,h3⟩:=h.1.2 b hb;unfold eBr;rw [N3,N3];have:=bB h1;have:=bB h2;have:=bB h3;omega
 omega
structure StB (g:Gr):Prop where
 c:∀s∈g.conds,s.size<=1000
 t:∀t∈g.toks,t.name.size<=1000/\t.lit.size<=1000/\t.smp.size<=1000
 s:∀s∈g.nons,s.size<=1000
 p:∀p∈g.prods,p.name.size<=1000
 l:∀l∈g.lvs,l.ps.length<=10000
 f:∀f∈g.fils,f.toks.length<=10000
theorem un {n:Nat}:∀(l:List Tk) (done:List ByteArray),cO n done l->∀t∈l,∃d,yT n d t
 |[],_,_,_,h=>by cases h
 |t::l,done,⟨h1,h2⟩,x,hx=>by
  rcases XB.1 hx with rfl|hx
  ·exact ⟨_,h1⟩
  ·exact un l _ h2 x hx
theorem uo {g:Gr}:∀(l:List Lv) (done:Φ),cE g done l->∀t∈l,∃d,FJ g d t
 |[],_,_,_,h=>by cases h
 |t::l,done,⟨h1,h2⟩,x,hx=>by
  rcases XB.1 hx with rfl|hx
  ·exact ⟨_,h1⟩
  ·exact uo l _ h2 x hx
theorem nK {g:Gr}:∀(l:List Pr) (done:List ByteArray),bU g done l=0->∀p∈l,dh g p/\∃d,sT g d p
 |[],_,_,_,h=>by cases h
 |p::l,done,h,x,hx=>by
  unfold bU at h;by_cases h1:dh g p
  ·rw [if_neg (not_not_intro h1)] at h;by_cases h2:sT g done p
   ·rw [if_neg (not_not_intro h2)] at h;rcases XB.1 hx with rfl|hx
    ·exact ⟨h1,_,h2⟩
    ·exact nK l _ h x hx
   ·rw [if_pos h2] at h;cases h
  ·rw [if_pos h1] at h;cases h
theorem Dd {g:Gr} {s:Sy} (h:iO g s) (hn:g.nons.length<=2000) (ht:g.toks.length<=256):0<=s.i/\s.i<=2000:=by
 refine ⟨h.1,?_⟩;cases e:s.t with
 |false=>have:=h.2.1 e;omega
 |true=>obtain ⟨t,h1,_⟩:=h.2.2 e;have:=(N6.1 h1).1;have:=h.1;omega
theorem IJ {g:Gr} {kd:Tk->Bool} {l:Φ} (h:fJ g kd l) (ht:g.toks.length<=256):∀n∈l,I63 n:=λn hn=>by obtain ⟨h0,t,h1,_⟩:=h.2.1 n hn;have:=(N6.1 h1).1;exact i63 h0 (by omega)
theorem yj {r:List Sy} {k v lo hi:Int} (h:cy r k v lo hi) (hr:r.length<=16) (h0:0<=lo) (h1:hi<=255):I63 k/\I63 v:=by
 rcases h with ⟨rfl,rfl⟩|⟨a,b,_,c,d⟩
 ·exact ⟨i63 (by omega) (by omega),i63 (by omega) (by omega)⟩
 ·exact ⟨i63 (by omega) (by omega),i63 (by omega) (by omega)⟩
theorem PY {g:Gr} (h:OkG g) (hs:StB g):pGr g/\(eGr g).length<=50000000000:=by
 obtain ⟨bc,bt,bf,bn,bp,bl,bpr⟩:=eE h.large;have z:I63 0:=i63 (by omega) (by omega);have fam:=yi h.fam.2.2.1.1;have tok:∀t∈g.toks,pTk t/\t.pat.length<=512/\t.cond.1.length<=4096:=λt ht=>by
  obtain ⟨d,_,_,h1,h2,h3,h4,h5⟩:=un _ _ h.toks t ht;obtain ⟨s1,s2,s3⟩:=hs.t t ht;have hp:t.pat.length<=512/\∀x∈t.pat,pNd x:=by
   by_cases e:t.lit=emp
   ·exact PX (h5 e).1
   ·rw [(h4 e).2];exact ⟨by decide,λ_ h=>(by cases h)⟩
  have hd:=yi h3.1;exact ⟨⟨n63 (by omega),i63 h1 (by omega),n63 (by omega),⟨n63 (by omega),hp.2⟩,n63 (by omega),hd.1⟩,hp.1,hd.2⟩
 have prd:∀p∈g.prods,pPr p/\p.cond.1.length<=4096:=λp hp=>by
  obtain ⟨hsy,d,_,_,h3,h4,h5,h6,h7,h8,_⟩:=nK _ _ h.prods p hp;obtain ⟨b1,b2⟩:=bpr p hp;have s1:=hs.p p hp;have hd:=yi h3.1;have hl:=Dd hsy.1 bn bt;obtain ⟨k1,k2⟩:=yj h7 b1 (by omega) (by omega);obtain ⟨k3,k4⟩:=yj h8 b1 (by omega) (by omega);refine ⟨⟨n63 (by omega),i63 hl.1 (by have:=hl.2;dsimp only at this;omega),⟨n63 (by omega),λs hs'=>⟨trivial,?_⟩⟩,hd.1,trivial,i63 (by omega) (by omega),⟨n63 (by omega),λx hx=> ?_⟩,trivial,k1,k2,k3,k4⟩,hd.2⟩
  ·have:=Dd (hsy.2 s hs') bn bt;exact i63 this.1 (by omega)
  ·obtain ⟨c1,c2,c3,c4,c5,c6,_⟩:=h6 x hx;exact ⟨i63 (by omega) (by omega),i63 (by omega) (by omega),i63 (by omega) (by omega)⟩
 have lvl:∀l∈g.lvs,pLv l/\l.cond.1.length<=4096:=λl hl=>by obtain ⟨d,h1,h2,h3,h4,_⟩:=uo _ _ h.lvs l hl;have s1:=hs.l l hl;have hd:=yi h3.1;exact ⟨⟨⟨n63 (by omega),λp hp=>i63 (h4 p hp).1 (by have:=(h4 p hp).2;omega)⟩,i63 h1 (by omega),hd.1⟩,hd.2⟩
 have fil:∀f∈g.fils,pFi f/\f.cond.1.length<=4096:=λf hf=>by
  obtain ⟨h1,h2⟩:=h.fils f hf;have s1:=hs.f f hf;have hd:=yi h1.1;refine ⟨?_,hd.2⟩;have hl:N63 f.toks.length:=n63 (by omega);rcases h2 with ⟨k,⟨a,b,c,p,q,e1,e2,e3⟩,e4,e5,e6⟩|⟨k,⟨a,b,c⟩,e1,e2,e3,e4⟩|⟨k,⟨a,b,t,e0,_⟩,e1,e2,e3,e4⟩
  ·have g1:=(N6.1 e1).1;have g2:=(N6.1 e2).1;have g3:=(N6.1 e3).1;have g4:=(bpr p (XG e1)).1;exact ⟨i63 (by omega) (by omega),i63 a (by omega),i63 c (by omega),i63 b (by omega),by rw [e4];exact z,by rw [e5];exact z,⟨hl,by rw [e6];exact λ_ h=>(by cases h)⟩,hd.1⟩
  ·exact ⟨i63 (by omega) (by omega),by rw [e1];exact z,by rw [e2];exact z,by rw [e3];exact z,i63 a (by omega),by rw [e4];exact z,⟨hl,IJ c bt⟩,hd.1⟩
  ·have g1:=(N6.1 e0).1;exact ⟨i63 (by omega) (by omega),by rw [e1];exact z,by rw [e2];exact z,by rw [e3];exact z,by rw [e4];exact z,i63 b (by omega),⟨hl,IJ a bt⟩,hd.1⟩
 have pc:pL pS g.conds:=⟨n63 (by omega),λs hs'=>n63 (by have:=hs.c s hs';omega)⟩;have pt':pL pTk g.toks:=⟨n63 (by omega),λt ht=>(tok t ht).1⟩;have pn:pL pS g.nons:=⟨n63 (by omega),λs hs'=>n63 (by have:=hs.s s hs';omega)⟩;have pp:pL pPr g.prods:=⟨n63 (by omega),λt ht=>(prd t ht).1⟩;have ps:I63 g.start:=i63 h.nons.2.1 (by have:=h.nons.2.2;omega);have pl:pL pLv g.lvs:=⟨n63 (by omega),λt ht=>(lvl t ht).1⟩;have pf:pL pFi g.fils:=⟨n63 (by omega),λt ht=>(fil t ht).1⟩;refine ⟨⟨pc,fam.1,pt',pn,pp,ps,pl,pf⟩,?_⟩;have l1:=fE (f:=eS) (M:=1009) pc bc λs hs'=>X1 (nJ (pc.2 s hs')) (by have:=hs.c s hs';omega);have l2:=sJ fam.1 fam.2;have l3:=fE (f:=eTk) (M:=200000) pt' bt λt ht=>by
  obtain ⟨⟨a1,a2,a3,a4,a5,a6⟩,b1,b2⟩:=tok t ht;obtain ⟨s1,s2,s3⟩:=hs.t t ht;unfold eTk;simp only [N3];have q1:=nJ a1;have q2:=bB a2;have q3:=nJ a3;have q4:=fE (f:=eNd) (M:=45) a4 b1 λx hx=>by obtain ⟨c1,c2,c3,c4,c5⟩:=a4.2 x hx;unfold eNd;simp only [N3];have:=bB c1;have:=bB c2;have:=bB c3;have:=bB c4;have:=bB c5;omega
  have q5:=nJ a5;have q6:=sJ a6 b2;omega
 have l4:=fE (f:=eS) (M:=1009) pn bn λs hs'=>X1 (nJ (pn.2 s hs')) (by have:=hs.s s hs';omega);have l5:=fE (f:=ePr) (M:=200000) pp bp λp hp=>by
  obtain ⟨⟨a1,a2,a3,a4,_,a5,a6,_,c1,c2,c3,c4⟩,b1⟩:=prd p hp;have s1:=hs.p p hp;obtain ⟨d1,d2⟩:=bpr p hp;unfold ePr yQ eB;simp only [N3,XJ];have q1:=nJ a1;have q2:=bB a2;have q3:=fE (f:=eSy) (M:=10) a3 d1 λx hx=>by unfold eSy eB;simp only [N3,XJ];have:=bB (a3.2 x hx).2;omega
  have q4:=sJ a4 b1;have q5:=bB a5;have q6:=fE (f:=eCn) (M:=27) a6 d2 λx hx=>by obtain ⟨u1,u2,u3⟩:=a6.2 x hx;unfold eCn;simp only [N3];have:=bB u1;have:=bB u2;have:=bB u3;omega
  have:=bB c1;have:=bB c2;have:=bB c3;have:=bB c4;omega
 have l6:=bB ps;have l7:=fE (f:=eLv) (M:=300000) pl bl λl hl=>by obtain ⟨⟨a1,a2,a3⟩,b1⟩:=lvl l hl;unfold eLv;simp only [N3];have q1:=fE (f:=eI) (M:=9) a1 (hs.l l hl) λx hx=>bB (a1.2 x hx);have q2:=bB a2;have q3:=sJ a3 b1;omega
 have l8:=fE (f:=eFi) (M:=300000) pf bf λf hf=>by obtain ⟨⟨a1,a2,a3,a4,a5,a6,a7,a8⟩,b1⟩:=fil f hf;unfold eFi;simp only [N3];have q1:=fE (f:=eI) (M:=9) a7 (hs.f f hf) λx hx=>bB (a7.2 x hx);have:=bB a1;have:=bB a2;have:=bB a3;have:=bB a4;have:=bB a5;have:=bB a6;have q3:=sJ a8 b1;omega
 unfold eGr;simp only [N3];omega
section
end
section
end
def tiT (x:Tk):Prop:=x.name.size<=100/\x.lit.size<=100/\x.pat.length<=100/\x.smp.size<=100/\x.cond.1.length<=1000
def tiP (n:Nat) (x:Pr):Prop:=x.name.size<=100/\x.right.length<=n/\x.cond.1.length<=1000/\x.lay.length<=100
def tiL (x:Lv):Prop:=x.ps.length<=100/\x.cond.1.length<=1000
def tiF (x:Fi):Prop:=x.toks.length<=100/\x.cond.1.length<=1000
structure Ti (n:Nat) (g:Gr):Prop where
 c:g.conds.length<=3
 ci:∀s∈g.conds,s.size<=100
 fam:g.fam.1.length<=1000
 t:g.toks.length<=100
 ti:∀x∈g.toks,tiT x
 s:g.nons.length<=100
 si:∀s∈g.nons,s.size<=100
 p:g.prods.length<=100
 pi:∀x∈g.prods,tiP n x
 l:g.lvs.length<=n
 li:∀x∈g.lvs,tiL x
 f:g.fils.length<=n
 fi:∀x∈g.fils,tiF x
section
variable {g:Gr} {n:Nat}
theorem Ti.sz (h:Ti n g):Sz g:=⟨λs hs=>by have:=h.ci s hs;omega,λx hx=>by have:=(h.ti x hx).2.2.2.1;omega,λx hx=>by have:=(h.li x hx).1;omega,λx hx=>by have:=(h.fi x hx).1;omega⟩
theorem Ti.sm (h:Ti n g) (hn:n<=100):Sm g:=
 ⟨by have:=h.c;omega,by have:=h.fam;omega,by have:=h.t;omega,by have:=h.s;omega,by have:=h.p;omega,by have:=h.l;omega,by have:=h.f;omega,
  λx hx=>by have:=h.ti x hx;unfold tiT at this;omega,λx hx=>by have:=h.pi x hx;unfold tiP at this;omega,λx hx=>by have:=h.li x hx;unfold tiL at this;omega,λx hx=>by have:=h.fi x hx;unfold tiF at this;omega⟩
theorem Ti.sml (h:Ti n g) (hn:n<=100):Sml g:=
 ⟨h.sm hn,h.sz,by have:=h.fam;omega,λx hx=>by have:=h.ti x hx;unfold tiT at this;omega,λx hx=>by have:=h.pi x hx;unfold tiP at this;omega,λx hx=>by have:=h.li x hx;unfold tiL at this;omega,λx hx=>by have:=h.fi x hx;unfold tiF at this;omega⟩
theorem cI {α:Type} {f:α->Φ} {M:Nat}:∀{l:List α},(∀x∈l,(f x).length<=M)->(l.flatMap f).length<=l.length*M
 |[],_=>by simp
 |x::l,h=>by rw [XT,N3,XI,YS];have:=h x (by simp);have:=cI (l:=l) λy hy=>h y (by simp [hy]);omega
theorem fS {x:ByteArray} (h:x.size<=100):(cx x).length<=101:=by unfold cx;rw [XI,XH,Ym];omega
theorem ju {d:Dia} (h:d.1.length<=1000):(gZ d).length<=3002:=by unfold gZ;have:=cI (f:=wBr) (l:=d.1) (M:=3) λx _=>XA _;simp only [N3,XJ];omega
theorem IK {x:Tk} (h:tiT x):(kL x).length<=10000:=by obtain ⟨h1,h2,h3,h4,h5⟩:=h;unfold kL;have:=fS h1;have:=fS h2;have:=fS h4;have:=ju h5;have:=cI (f:=wNd) (l:=x.pat) (M:=5) λx _=>XA _;simp only [N3,XJ];omega
theorem KO {x:Pr} (h:tiP n x) (hn:n<=100):(wPr x).length<=10000:=by obtain ⟨h1,h2,h3,h4⟩:=h;unfold wPr;have:=fS h1;have:=ju h3;have:=cI (f:=wSy) (l:=x.right) (M:=2) λx _=>XA _;have:=cI (f:=wCn) (l:=x.lay) (M:=3) λx _=>XA _;simp only [N3,XI,Yo];omega
theorem KP {x:Lv} (h:tiL x):(wLv x).length<=10000:=by obtain ⟨h1,h2⟩:=h;unfold wLv jx;have:=ju h2;simp only [N3,XI,Yo];omega
theorem KQ {x:Fi} (h:tiF x):(wFi x).length<=10000:=by obtain ⟨h1,h2⟩:=h;unfold wFi jx;have:=ju h2;simp only [N3,XI,Yo];omega
theorem KR (h:Ti n g) (hn:n<=100):(wGr g).length<=400000000000:=by have h1:=cI (f:=cx) (l:=g.conds) (M:=101) λx hx=>fS (h.ci x hx);have h2:=cI (f:=kL) (l:=g.toks) (M:=10000) λx hx=>IK (h.ti x hx);have h3:=cI (f:=cx) (l:=g.nons) (M:=101) λx hx=>fS (h.si x hx);have h4:=cI (f:=wPr) (l:=g.prods) (M:=10000) λx hx=>KO (h.pi x hx) hn;have h5:=cI (f:=wLv) (l:=g.lvs) (M:=10000) λx hx=>KP (h.li x hx);have h6:=cI (f:=wFi) (l:=g.fils) (M:=10000) λx hx=>KQ (h.fi x hx);have h7:=ju h.fam;have:=h.c;have:=h.t;have:=h.s;have:=h.p;have:=h.l;have:=h.f;unfold wGr;simp only [N3,XI,Yo];omega
theorem uq {α:Type} {l:List α} {k:Nat} {f:α->α} {P:α->Prop} (h:∀x∈l,P x) (hf:∀x∈l,P (f x)):∀x∈dP l k f,P x:=by
 unfold dP;split
 ·rename_i y hy;intro x hx;rcases List.mem_or_eq_of_mem_set hx with hx|rfl
  ·exact h x hx
  ·exact hf y (XG hy)
 ·exact h
theorem ur {α:Type} {l:List α} {k:Nat} {f:α->α}:(dP l k f).length=l.length:=by
 unfold dP;split
 ·rw [List.length_set]
 ·rfl
theorem Ti.prods (h:Ti 50 g) {k:Nat} {f:Pr->Pr} (hf:∀x∈g.prods,tiP 50 x->tiP 51 (f x)):Ti 51 {g with prods:=dP g.prods k f}:=
 ⟨h.c,h.ci,h.fam,h.t,h.ti,h.s,h.si,by show (dP _ _ _).length<=_;rw [ur];exact h.p,uq (λx hx=>by have:=h.pi x hx;unfold tiP at this ⊢;omega) λx hx=>hf x hx (h.pi x hx),X1 h.l (by decide),h.li,X1 h.f (by decide),h.fi⟩
theorem Ti.toks (h:Ti 50 g) {k:Nat} {f:Tk->Tk} (hf:∀x∈g.toks,tiT x->tiT (f x)):Ti 51 {g with toks:=dP g.toks k f}:=
 ⟨h.c,h.ci,h.fam,by show (dP _ _ _).length<=_;rw [ur];exact h.t,uq h.ti λx hx=>hf x hx (h.ti x hx),h.s,h.si,h.p,λx hx=>by have:=h.pi x hx;unfold tiP at this ⊢;omega,X1 h.l (by decide),h.li,X1 h.f (by decide),h.fi⟩
theorem Ti.up (h:Ti 50 g):Ti 51 g:=
 ⟨h.c,h.ci,h.fam,h.t,h.ti,h.s,h.si,h.p,λx hx=>by have:=h.pi x hx;unfold tiP at this ⊢;omega,by have:=h.l;omega,h.li,by have:=h.f;omega,h.fi⟩
theorem Ti.lvs (h:Ti 50 g) {y:Lv} (hy:tiL y):Ti 51 {g with lvs:=g.lvs++[y]}:=
 ⟨h.c,h.ci,h.fam,h.t,h.ti,h.s,h.si,h.p,h.up.pi,by have:=h.l;show (g.lvs++[y]).length<=51;rw [N3,XJ];omega,λx hx=>by
  rcases XD.1 hx with hx|hx
  ·exact h.li x hx
  ·rw [XC.1 hx];exact hy,h.up.f,h.fi⟩
theorem Ti.fils (h:Ti 50 g) {y:Fi} (hy:tiF y):Ti 51 {g with fils:=g.fils++[y]}:=
 ⟨h.c,h.ci,h.fam,h.t,h.ti,h.s,h.si,h.p,h.up.pi,h.up.l,h.li,by have:=h.f;show (g.fils++[y]).length<=51;rw [N3,XJ];omega,λx hx=>by
  rcases XD.1 hx with hx|hx
  ·exact h.fi x hx
  ·rw [XC.1 hx];exact hy⟩
theorem KT (h:Ti 50 g) (ht:g.toks.length≠0) (k a:Nat) (b:Int):Ti 51 (eZ g k a b):=by
 have u:=h.up;obtain ⟨t0,ht0⟩:∃y,g.toks[0]? =some y:=⟨_,N4 (by omega)⟩;have hx0:=(h.ti t0 (XG ht0)).1;unfold eZ;split
 ·exact ⟨u.c,u.ci,u.fam,u.t,u.ti,u.s,u.si,u.p,u.pi,u.l,u.li,u.f,u.fi⟩
 ·exact h.prods λx _ hx=>⟨hx.1,X1 hx.2.1 (by decide),hx.2.2.1,hx.2.2.2⟩
 ·exact h.prods λx _ hx=>⟨hx.1,by have:=hx.2.1;show (_::x.right).length<=51;rw [XI];omega,hx.2.2.1,hx.2.2.2⟩
 ·exact h.prods λx _ hx=>⟨hx.1,X1 hx.2.1 (by decide),hx.2.2.1,hx.2.2.2⟩
 ·exact h.prods λx _ hx=>⟨hx.1,X1 hx.2.1 (by decide),hx.2.2.1,by show 1<=100;decide⟩
 ·exact h.prods λx _ hx=>⟨hx.1,X1 hx.2.1 (by decide),hx.2.2.1,hx.2.2.2⟩
 ·exact h.prods λx _ hx=>⟨hx.1,X1 hx.2.1 (by decide),hx.2.2.1,hx.2.2.2⟩
 ·exact h.toks λx _ hx=>hx
 ·exact h.toks λx _ hx=>⟨by rw [ht0];exact hx0,hx.2⟩
 ·exact h.lvs ⟨by show 1<=100;decide,h.fam⟩
 ·exact h.fils ⟨by show 0<=100;decide,h.fam⟩
 ·exact h.fils ⟨by show 1<=100;decide,h.fam⟩
 ·exact h.fils ⟨by show 2<=100;decide,h.fam⟩
 ·exact h.prods λx _ hx=>⟨hx.1,X1 hx.2.1 (by decide),by show 1<=1000;decide,hx.2.2.2⟩
 ·exact ⟨u.c,u.ci,by show 1<=1000;decide,u.t,u.ti,u.s,u.si,u.p,u.pi,u.l,u.li,u.f,u.fi⟩
 ·exact h.prods λx _ hx=>⟨hx.1,X1 hx.2.1 (by decide),hx.2.2.1,hx.2.2.2⟩
theorem KU (h:MG g) (hb:Bd g 18 10):Ti 50 g:=by
 have hcl:=hb.c;have hpl:=hb.p;have hnl:=hb.n;have htl:=hb.t;have hll:=hb.l;have hfl:=hb.f;obtain ⟨t,ht,ht0,hf⟩:=h.fam;refine ⟨hcl,λs hs=> ?_,by have:=ht.brl (by omega);rw [hf];omega,by omega,λx hx=> ?_,by omega,λs hs=>by have:=h.nons.2 s hs;omega,by omega,λx hx=> ?_,by omega,λx hx=> ?_,by omega,λx hx=> ?_⟩
 ·obtain ⟨n,hn,hc⟩:=h.cs;rw [hc] at hs;have:∀s∈abc,s.size<=100:=by decide
  exact this s (Y2 hs)
 ·have:A0 x∈iI:=by rw [<- h.toks.1];exact List.mem_map_of_mem hx
  have h2:∀u∈iI,u.name.size<=100/\u.lit.size<=100/\u.pat.length<=100/\u.smp.size<=100:=by decide
  obtain ⟨a1,a2,a3,a4⟩:=h2 _ this;exact ⟨a1,a2,a3,a4,by have:=(h.toks.2 x hx).len (by omega);omega⟩
 ·have k:=h.prods x hx;exact ⟨by have:=k.nm.2;omega,by have:=k.rl;omega,by have:=k.cond.len (by omega);omega,by have:=k.lay;omega⟩
 ·exact ⟨by have:=hb.lp x hx;omega,by have:=(h.lvs.2 x hx).len (by omega);omega⟩
 ·exact ⟨by have:=(h.fils x hx).2.2;omega,by have:=(h.fils x hx).2.1.len (by omega);omega⟩
end
theorem KV {α:Type} {f:α->Δ} {l:List α} {x:α} (hx:x∈l):(f x).length<=(l.flatMap f).length:=by
 induction l with
 |nil=>cases hx
 |cons y l ih=>
  rw [XT,N3];rcases XB.1 hx with rfl|hx
  ·omega
  ·have:=ih hx;omega
theorem fH {α:Type} {e:α->Δ} {d:Ps α} {P:α->Prop} (h:Co e d P) (l:List α):l.length<=(eL e l).length/\∀x∈l,(e x).length<=(eL e l).length:=by unfold eL;rw [N3];have:=kM h l;exact ⟨by omega,λx hx=>by have:=KV (f:=e) hx;omega⟩
theorem Oj (s:ByteArray):s.size<=(eS s).length:=by unfold eS;rw [N3,aX];omega
theorem ko (d:Dia):d.1.length<=(eD d).length:=by unfold eD;rw [N3];have:=(fH VL d.1).1;omega
theorem PZ {g:Gr} (h:(eGr g).length<=100000):Sz g/\Sm g:=by
 unfold eGr at h;simp only [N3] at h;have c:=fH coS g.conds;have t:=fH Qs g.toks;have n:=fH coS g.nons;have p:=fH Qt g.prods;have l:=fH Qu g.lvs;have f:=fH Qv g.fils;have d:=ko g.fam;have tk:∀x∈g.toks,x.smp.size<=100000/\x.pat.length<=100000/\x.cond.1.length<=100000:=λx hx=>by
  have h1:(eTk x).length<=100000:=by have:=t.2 x hx;omega
  unfold eTk at h1;simp only [N3] at h1;have:=Oj x.smp;have:=(fH VM x.pat).1;have:=ko x.cond;omega
 have pr:∀x∈g.prods,x.right.length<=1000000000/\x.cond.1.length<=1000000000/\x.lay.length<=1000000000:=λx hx=>by
  have h1:(ePr x).length<=100000:=by have:=p.2 x hx;omega
  unfold ePr at h1;simp only [N3] at h1;have:=(fH VN x.right).1;have:=(fH VO x.lay).1;have:=ko x.cond;omega
 have lv:∀x∈g.lvs,x.ps.length<=1000000000/\x.cond.1.length<=1000000000:=λx hx=>by
  have h1:(eLv x).length<=100000:=by have:=l.2 x hx;omega
  unfold eLv at h1;simp only [N3] at h1;have:=(fH coI x.ps).1;have:=ko x.cond;omega
 have fi:∀x∈g.fils,x.toks.length<=1000000000/\x.cond.1.length<=1000000000:=λx hx=>by
  have h1:(eFi x).length<=100000:=by have:=f.2 x hx;omega
  unfold eFi at h1;simp only [N3] at h1;have:=(fH coI x.toks).1;have:=ko x.cond;omega
 exact ⟨⟨λs hs=>by have:=c.2 s hs;have:=Oj s;omega,λx hx=>(tk x hx).1,λx hx=>(lv x hx).1,λx hx=>(fi x hx).1⟩,
  ⟨by omega,by omega,by omega,by omega,by omega,by omega,by omega,λx hx=>⟨by have:=(tk x hx).2.1;omega,by have:=(tk x hx).2.2;omega⟩,pr,lv,fi⟩⟩
theorem De {α:Type} {w:α->Φ} {e:α->Δ} (h:∀x,(w x).length<=(e x).length):∀l:List α,(l.flatMap w).length<=(l.flatMap e).length
 |[]=>by simp
 |x::l=>by rw [XT,XT,N3,N3];have:=h x;have:=De h l;omega
theorem cv (x:Int):1<=(eI x).length:=dX _
theorem jv {α:Type} {w:α->Φ} {e:α->Δ} (h:∀x,(w x).length<=(e x).length) (l:List α):1+(l.flatMap w).length<=(eL e l).length:=by unfold eL;rw [N3];have:=De h l;have:=dX l.length;omega
theorem gW (s:ByteArray):(cx s).length<=(eS s).length:=by unfold cx eS;have:=dX s.size;simp only [XI,XH,Ym,N3,aX];omega
theorem yk (l:Φ):(jx l).length<=(eL eI l).length:=by
 have:=jv (w:=λx=>[x]) (e:=eI) (λx=>cv x) l;have e:(l.flatMap λx=>[x]).length=l.length:=by induction l<;>simp_all
 unfold jx;rw [XI];omega
theorem mO (d:Dia):(gZ d).length<=(eD d).length:=by have:=jv (w:=wBr) (e:=eBr) (λb=>by unfold wBr eBr;simp only [N3,XI,Yo];have:=cv b.v;have:=cv b.l;have:=cv b.h;omega) d.1;have:=cv d.2;unfold gZ eD;simp only [N3,XJ];omega
theorem KW (t:Tk):(kL t).length<=(eTk t).length:=by have:=jv (w:=wNd) (e:=eNd) (λb=>by unfold wNd eNd;simp only [N3,XI,Yo];have:=cv b.k;have:=cv b.lo;have:=cv b.hi;have:=cv b.a;have:=cv b.b;omega) t.pat;have:=gW t.name;have:=gW t.lit;have:=gW t.smp;have:=mO t.cond;have:=cv t.cls;unfold kL eTk;simp only [N3,XJ];omega
theorem P0 (p:Pr):(wPr p).length<=(ePr p).length:=by have:=jv (w:=wSy) (e:=eSy) (λb=>by unfold wSy eSy eB;simp only [N3,XI,Yo];have:=cv b.i;omega) p.right;have:=jv (w:=wCn) (e:=eCn) (λb=>by unfold wCn eCn;simp only [N3,XI,Yo];have:=cv b.k;have:=cv b.a;have:=cv b.b;omega) p.lay;have:=gW p.name;have:=mO p.cond;have:=cv p.left;have:=cv (p.rank+1);have:=cv p.sco.d;have:=cv p.sco.k;have:=cv p.sco.u;have:=cv p.sco.a;unfold wPr ePr yQ eB;simp only [N3,XJ,XI,Yo];omega
theorem P5 (l:Lv):(wLv l).length<=(eLv l).length:=by have:=yk l.ps;have:=mO l.cond;have:=cv l.assoc;unfold wLv eLv;simp only [N3,XJ];omega
theorem P6 (f:Fi):(wFi f).length<=(eFi f).length:=by have:=yk f.toks;have:=mO f.cond;have:=cv f.k;have:=cv f.par;have:=cv f.pos;have:=cv f.ch;have:=cv f.left;have:=cv f.tok;unfold wFi eFi;simp only [N3,XI,Yo];omega
theorem P7 (g:Gr):(wGr g).length<=(eGr g).length:=by have:=jv gW g.conds;have:=mO g.fam;have:=jv KW g.toks;have:=jv gW g.nons;have:=jv P0 g.prods;have:=cv g.start;have:=jv P5 g.lvs;have:=jv P6 g.fils;unfold wGr eGr;simp only [N3,XJ,XI,Yo];omega
theorem KX {g:Gr} (h:(eGr g).length<=100000):Sml g:=by
 obtain ⟨hz,hm⟩:=PZ h;unfold eGr at h;simp only [N3] at h;have t:=fH Qs g.toks;have p:=fH Qt g.prods;have l:=fH Qu g.lvs;have f:=fH Qv g.fils;have d:=ko g.fam;refine ⟨hm,hz,by omega,λx hx=> ?_,λx hx=> ?_,λx hx=> ?_,λx hx=> ?_⟩
 ·have h1:(eTk x).length<=100000:=by have:=t.2 x hx;omega
  unfold eTk at h1;simp only [N3] at h1;have:=ko x.cond;omega
 ·have h1:(ePr x).length<=100000:=by have:=p.2 x hx;omega
  unfold ePr at h1;simp only [N3] at h1;have:=ko x.cond;omega
 ·have h1:(eLv x).length<=100000:=by have:=l.2 x hx;omega
  unfold eLv at h1;simp only [N3] at h1;have:=ko x.cond;omega
 ·have h1:(eFi x).length<=100000:=by have:=f.2 x hx;omega
  unfold eFi at h1;simp only [N3] at h1;have:=ko x.cond;omega
theorem Ti.stb {g:Gr} {n:Nat} (h:Ti n g):StB g:=
 ⟨λs hs=>by have:=h.ci s hs;omega,λt ht=>by have:=h.ti t ht;unfold tiT at this;omega,λs hs=>by have:=h.si s hs;omega,λp hp=>by have:=(h.pi p hp).1;omega,λl hl=>by have:=(h.li l hl).1;omega,λf hf=>by have:=(h.fi f hf).1;omega⟩
theorem IL {g:Gr} {n:Nat} (h:Ti n g) (hk:bW g=0):pGr g/\NN g/\(eGr g).length<=50000000000:=by
 have hO:=ga.1 hk;obtain ⟨h1,h2⟩:=PY hO h.stb
 exact ⟨h1,.of h1 λp hpm=>by
  obtain ⟨_,d,_,_,_,h4,h5,_⟩:=nK _ _ hO.prods p hpm
  exact ⟨h4,h5⟩,h2⟩
end Go.Proofs.YtenpmjhnhepfdaaGreatDoor
