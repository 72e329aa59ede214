/-
  Package facts: cyclic: the search from each nonterminal.
-/
import Derived.Test.YteilolbbgieadaaGreatDoorGtree
import Derived.Tactics
import Derived.Tactics2
import Derived.Recover
import Derived.MapKept
import Derived.RangeFuncBox
import Derived.RangeFuncLeaves
import Derived.Shelf.Abstract
import Derived.WalkKit
import Derived.OwnWalkIn
import Derived.TacticsInMore
import Derived.LoopNIn
import Derived.LoopIn
set_option maxRecDepth 10000
open Option renaming some->mB,none->nC
open Go.Obj renaming cells->mX
open Bool renaming false->nS,true->nZ
open Go.Value renaming agg->oc,bool->oY,pointer->pj,tuple->sj,slice->tU
open Go.Addr renaming add->od,mk->pd
open Int renaming toNat->pc
noncomputable section
namespace Go.Proofs.YteilolbbgieadaaGreatDoor
open Go.IntKind (i64 u8 u64)
open Sl renaming v->nV,nil->pk,mk->tX,cut->xy
open Go Go.Proofs.Tryz Tr
section
theorem lO {k:Nat}:∀{t:Tr},dS k t->∀{c d:Cf},(∀i,i<k->c i=d i)->t.ev c=t.ev d
 |qa6 _,_,_,_,_=>rfl
 |qa7 v l h,⟨h1,h2,h3⟩,c,d,hc=>by simp only [Tr.ev];rw [hc v h1,lO h2 hc,lO h3 hc]
def A1 (c:Cf):Nat->Nat
 |0=>0
 |k+1=>A1 c k+if c k=nZ then 2 ^ k else 0
theorem vI (c:Cf):∀k,A1 c k<2 ^ k
 |0=>Nat.one_pos
 |k+1=>by have:=vI c k;rw [Nat.pow_succ,A1];split<;>omega
theorem rc (c:Cf):∀{k i:Nat},i<k->(A1 c k).testBit i=c i
 |0,_,h=>by omega
 |k+1,i,h=>by
  have r:=vI c k;rw [A1];by_cases e:i=k
  ·subst e;by_cases g:c i=nZ
   ·rw [Χ g,XM,Nat.testBit_two_pow_add_eq,Nat.testBit_lt_two_pow r,g];rfl
   ·rw [Υ g,Nat.add_zero,Nat.testBit_lt_two_pow r];simpa using (Yv.2 g).symm
  ·have hi:i<k:=by omega
   by_cases g:c k=nZ
   ·rw [Χ g,XM,Nat.testBit_two_pow_add_gt hi];exact rc c hi
   ·rw [Υ g,Nat.add_zero];exact rc c hi
theorem ud {α:Type} {p q:α->Bool}:∀{l:List α},(∀x∈l,p x=nZ->q x=nZ)->(l.filter p).length<=(l.filter q).length/\∀x∈l,q x=nZ->p x=nS->(l.filter p).length<(l.filter q).length
 |[],_=>⟨tI _,λ_ h=>by cases h⟩
 |y::l,h=>by
  obtain ⟨F,C⟩:=ud (l:=l) λx r=>h x (VB _ r);have B:=h y (by simp);have D:((y::l).filter p).length=(l.filter p).length+if p y=nZ then 1 else 0:=by rw [List.filter_cons];split<;>simp
  have E:((y::l).filter q).length=(l.filter q).length+if q y=nZ then 1 else 0:=by rw [List.filter_cons];split<;>simp
  rw [D,E];refine ⟨?_,λx r w A=> ?_⟩
  ·by_cases g:p y=nZ
   ·rw [Χ g,Χ (B g)];omega
   ·rw [Υ g];omega
  ·rcases tQ.1 r with rfl|r
   ·rw [Χ w,Υ (by rw [A];exact YW)];omega
   ·have:=C x r w A;by_cases g:p y=nZ
    ·rw [Χ g,Χ (B g)];omega
    ·rw [Υ g];omega
def wt (k:Nat) (t:Tr):Nat:=((List.range (2 ^ k)).filter λm=>t.ev λi=>m.testBit i).length
theorem N8 (k:Nat) (t:Tr):wt k t<=2 ^ k:=by unfold wt;exact Wl (List.length_filter_le _ _) (by rw [Wq];exact tI _)
theorem qcH {k:Nat} {a b:Tr} (B:Sx k a) (C:Sx k b) (g:∀c,a.ev c=nZ->b.ev c=nZ):wt k a<=wt k b/\(a≠b->wt k a<wt k b):=by
 obtain ⟨F,E⟩:=ud (p:=λm:Nat=>a.ev λi=>m.testBit i) (q:=λm=>b.ev λi=>m.testBit i) (l:=List.range (2 ^ k)) λx _=>g _;refine ⟨F,λA=> ?_⟩;have w:¬∀c,a.ev c=b.ev c:=λh=>A (eq_of_ev B.1 C.1 h);have ⟨c,hc⟩:∃c,a.ev c≠b.ev c:=Classical.not_forall.1 w;have e:∀{t:Tr},Sx k t->t.ev (λi=>(A1 c k).testBit i)=t.ev c:=λD=>lO D.2 λi hi=>rc c hi;have r:a.ev c=nS:=by
  cases h:a.ev c with
  |false=>rfl
  |true=>exact absurd (h.trans (g c h).symm) hc
 refine E (A1 c k) (Wy.2 (vI c k)) ?_ ?_
 ·show b.ev _=nZ;rw [e C];cases h:b.ev c with
  |true=>rfl
  |false=>exact absurd (r.trans h.symm) hc
 ·show a.ev _=nS;rw [e B,r]
section
variable {κ:Type} {k:Nat}
def Sxs (k:Nat) (S:κ->Tr):Prop:=∀n,Sx k (S n)
def Lt' (S S':κ->Tr):Prop:=∀n c,(S n).ev c=nZ->(S' n).ev c=nZ
theorem Lt'.refl (S:κ->Tr):Lt' S S:=λ_ _ h=>h
theorem Lt'.trans {S T U:κ->Tr} (h:Lt' S T) (g:Lt' T U):Lt' S U:=λn c r=>g n c (h n c r)
theorem Lt'.antisymm {S T:κ->Tr} (g:Sxs k S) (w:Sxs k T) (h:Lt' S T) (r:Lt' T S):S=T:=by
 funext n;refine eq_of_ev (g n).1 (w n).1 λc=> ?_;cases e:(S n).ev c with
 |true=>exact (h n c e).symm
 |false=>
  cases e':(T n).ev c with
  |false=>rfl
  |true=>rw [r n c e'] at e;cases e
def mu (k:Nat) (keys:List κ) (S:κ->Tr):Nat:=(keys.map λn=>2 ^ k - wt k (S n)).sum
theorem HV {S T:κ->Tr} (w:Sxs k S) (A:Sxs k T) (h:Lt' S T):∀keys:List κ,mu k keys T<=mu k keys S/\∀n∈keys,S n≠T n->mu k keys T<mu k keys S
 |[]=>⟨tI _,λ_ h=>by cases h⟩
 |x::l=>by
  obtain ⟨F,C⟩:=HV w A h l;obtain ⟨G,B⟩:=qcH (w x) (A x) (h x);have D:=N8 k (S x);have E:=N8 k (T x);have e:∀S:κ->Tr,mu k (x::l) S=(2 ^ k - wt k (S x))+mu k l S:=λS=>by unfold mu;rw [xV,List.sum_cons]
  rw [e,e];refine ⟨by omega,λn r g=> ?_⟩;rcases tQ.1 r with rfl|r
  ·have:=B g;omega
  ·have:=C n r g;omega
variable [DecidableEq κ]
def jX (S:κ->Tr) (n:κ) (t:Tr):κ->Tr:=λi=>if i=n then t else S i
theorem ue (S:κ->Tr) (n:κ):jX S n (S n)=S:=by
 funext i;unfold jX;split
 ·rename_i e;rw [e]
 ·rfl
theorem Sxs.upd {S:κ->Tr} (h:Sxs k S) {n:κ} {t:Tr} (g:Sx k t):Sxs k (jX S n t):=λi=>by
 unfold jX;split
 ·exact g
 ·exact h i
def dV (S:κ->Tr) (n:κ) (d:Tr):κ->Tr:=jX S n (ap2 z9 (S n) d)
theorem lP {S:κ->Tr} (h:Sxs k S) {n:κ} {d:Tr} (hd:Sx k d) (i:κ) (c:Cf):(dV S n d i).ev c=((S i).ev c || (decide (i=n) && d.ev c)):=by
 unfold dV jX;by_cases e:i=n
 ·rw [Χ e,ε e,e,(cC (h n).1 hd.1).2];rfl
 ·rw [Υ e,η e];simp
theorem pv {S:κ->Tr} (h:Sxs k S) {n:κ} {d:Tr} (hd:Sx k d):Sxs k (dV S n d):=h.upd ((h n).ap2 hd)
theorem vJ {S:κ->Tr} (h:Sxs k S) {n:κ} {d:Tr} (hd:Sx k d):Lt' S (dV S n d):=λi c g=>by rw [lP h hd,g];rfl
end
inductive Der (l:List Pr) (P:Nat->Tr) (st:Bool) (c:Cf):Int->Prop
 |mk (i:Nat) (x:Pr):l[i]? =mB x->(P i).ev c=nZ->(∀s∈x.right,s.t=nZ->st=nS)->(∀s∈x.right,s.t=nS->Der l P st c s.i)->Der l P st c x.left
section
variable {k:Nat} {l:List Pr} {P:Nat->Tr} {st:Bool}
def fj (S:Int->Tr):Tr->List Sy->Tr
 |d,[]=>d
 |d,s::r=>fj S (if s.t=nZ then d else ap2 bV d (S s.i)) r
theorem cJ {S:Int->Tr} (g:Sxs k S):∀(r:List Sy) {d:Tr},Sx k d->Sx k (fj S d r)/\∀c,(fj S d r).ev c=(d.ev c && r.all λs=>s.t || (S s.i).ev c)
 |[],d,hd=>⟨hd,λc=>by simp [fj]⟩
 |s::r,d,hd=>by
  unfold fj;by_cases h:s.t=nZ
  ·rw [Χ h];obtain ⟨A,w⟩:=cJ g r hd;exact ⟨A,λc=>by rw [w,Xj,h];simp⟩
  ·rw [Υ h];obtain ⟨A,w⟩:=cJ g r (hd.ap2 (o:=bV) (g s.i));refine ⟨A,λc=> ?_⟩;rw [w,Xj,(cC hd.1 (g s.i).1).2,Yv.2 h,Bool.false_or,Bool.and_assoc]
def gb (st:Bool) (x:Pr):Bool:=st && x.right.any (·.t)
def iT (st:Bool) (P:Nat->Tr):Nat->List Pr->(Int->Tr)->Int->Tr
 |_,[],S=>S
 |i,x::l,S=>iT st P (i+1) l (if gb st x=nZ then S else dV S x.left (fj S (P i) x.right))
theorem gc {S:Int->Tr} (g:Sxs k S) {i:Nat} (r:Sx k (P i)) (x:Pr):
  Sxs k (if gb st x=nZ then S else dV S x.left (fj S (P i) x.right))/\Lt' S (if gb st x=nZ then S else dV S x.left (fj S (P i) x.right)):=by
 obtain ⟨h,_⟩:=cJ g x.right r;split
 ·exact ⟨g,Lt'.refl S⟩
 ·exact ⟨pv g h,vJ g h⟩
theorem kN (g:∀i,Sx k (P i)):∀(l:List Pr) (i:Nat) {S:Int->Tr},Sxs k S->Sxs k (iT st P i l S)/\Lt' S (iT st P i l S)/\∀n,iT st P i l S n≠S n->∃x∈l,x.left=n
 |[],i,S,hS=>⟨hS,Lt'.refl S,λn h=>absurd rfl h⟩
 |x::l,i,S,hS=>by
  obtain ⟨w,B⟩:=gc (st:=st) hS (g i) x;unfold iT;obtain ⟨C,r,D⟩:=kN g l (i+1) w;refine ⟨C,B.trans r,λn E=> ?_⟩;by_cases e:x.left=n
  ·exact ⟨x,by simp,e⟩
  ·have:(if gb st x=nZ then S else dV S x.left (fj S (P i) x.right)) n=S n:=by
    split
    ·rfl
    ·unfold dV jX;rw [Υ (Ne.symm e)]
   obtain ⟨y,F,A⟩:=D n (by rw [this];exact E);exact ⟨y,VB _ F,A⟩
theorem ow (r:∀i,Sx k (P i)):∀(l:List Pr) (i:Nat) {S:Int->Tr},Sxs k S->iT st P i l S=S->
  ∀(j:Nat) (x:Pr),l[j]? =mB x->gb st x=nS->∀c,(fj S (P (i+j)) x.right).ev c=nZ->(S x.left).ev c=nZ
 |[],_,_,_,_,j,_,h,_=>by simp at h
 |y::l,i,S,hS,he,j,x,hj,hs=>by
  obtain ⟨B,C⟩:=gc (st:=st) hS (r i) y;unfold iT at he;obtain ⟨D,A,_⟩:=kN (st:=st) r l (i+1) B;have w:(if gb st y=nZ then S else dV S y.left (fj S (P i) y.right))=S:=by refine Lt'.antisymm B hS ?_ C;rw [he] at A;exact A
  rw [w] at he;cases j with
  |zero=>simp at hj;subst hj;rw [hs,Υ YW] at w;intro c g;have:=lP hS (n:=y.left) (cJ hS y.right (r i)).1 y.left c;rw [w,ε rfl,V8] at this;rw [this];rw [Nat.add_zero] at g;rw [g,Bool.or_true]
  |succ j=>intro c g;refine ow r l (i+1) hS he j x (by simpa using hj) hs c ?_;rw [show i+1+j=i+(j+1) by omega];exact g
def Zr (l:List Pr) (P:Nat->Tr) (st:Bool) (S:Int->Tr):Prop:=∀n c,(S n).ev c=nZ->Der l P st c n
theorem yo (B:∀i,Sx k (P i)):∀(m:List Pr) (i:Nat) {S:Int->Tr},(∀j x,m[j]? =mB x->l[i+j]? =mB x)->Sxs k S->Zr l P st S->Zr l P st (iT st P i m S)
 |[],_,_,_,_,h=>h
 |x::m,i,S,hl,hS,h=>by
  obtain ⟨E,H⟩:=gc (st:=st) hS (B i) x;unfold iT;refine yo B m (i+1) (λj y F=>by rw [show i+1+j=i+(j+1) by omega];exact hl (j+1) y (by simpa using F)) E ?_;by_cases r:gb st x=nZ
  ·rw [Χ r];exact h
  ·rw [Υ r];intro n c g;obtain ⟨D,f2⟩:=cJ hS x.right (B i);rw [lP hS D] at g;rcases Bool.or_eq_true_iff.1 g with g|g
   ·exact h n c g
   ·obtain ⟨e,g⟩:=W2.1 g;have e:=ζ e;rw [f2] at g;obtain ⟨G,C⟩:=W2.1 g;rw [Vq] at C;rw [e];refine .mk i x (by have:=hl 0 x rfl;rwa [Nat.add_zero] at this) G (λs A w=> ?_) λs A w=> ?_
    ·cases hst:st with
     |false=>rfl
     |true=>refine absurd ?_ r;unfold gb;rw [hst,V8,XI];exact ⟨s,A,w⟩
    ·have:=C s A;rw [w,Bool.false_or] at this;exact h _ _ this
theorem A2 {S:Int->Tr} (r:Sxs k S) (C:∀i,Sx k (P i)) (A:∀(j:Nat) (x:Pr),l[j]? =mB x->gb st x=nS->∀c,(fj S (P j) x.right).ev c=nZ->(S x.left).ev c=nZ) {c:Cf} {n:Int} (h:Der l P st c n):(S n).ev c=nZ:=by
 induction h with
 |mk i x hi B w _ ih=>
  refine A i x hi ?_ c ?_
  ·unfold gb;cases hst:st with
   |false=>rfl
   |true=>rw [V8,<- Yw,XI];rintro ⟨s,g,h⟩;have:=w s g h;rw [hst] at this;cases this
  ·rw [(cJ r x.right (C i)).2,B,V8,Vq];intro s g;cases h:s.t with
   |true=>rfl
   |false=>rw [Bool.false_or];exact ih s g h
structure HW (k:Nat) (l:List Pr) (P:Nat->Tr) (st:Bool) (S:Int->Tr):Prop where
 sx:Sxs k S
 iff:∀n c,(S n).ev c=nZ↔Der l P st c n
theorem HX {S:Int->Tr} (r:∀i,Sx k (P i)) (g:Sxs k S) (h:Zr l P st S) (C:iT st P 0 l S=S):HW k l P st S:=
 ⟨g,λn c=>⟨h n c,A2 g r λj x B A c w=>ow r l 0 g C j x B A c (by rw [yp];exact w)⟩⟩
end
def WD (l:List Pr) (P:Nat->Tr) (c:Cf) (a b:Int):Prop:=∃(i j:Nat) (x:Pr) (s:Sy),l[i]? =mB x/\x.right[j]? =mB s/\s.t=nS/\x.left=a/\s.i=b/\(P i).ev c=nZ/\
 ∀(m:Nat) (y:Sy),m≠j->x.right[m]? =mB y->y.t=nS/\Der l P nZ c y.i
inductive Tg {α:Type} (R:α->α->Prop) (a:α):α->Prop
 |one {b:α}:R a b->Tg R a b
 |snoc {b d:α}:Tg R a b->R b d->Tg R a d
section
variable {α:Type} {R:α->α->Prop}
theorem Tg.head {a b:α} (h:Tg R a b):∃d,R a d:=by
 induction h with
 |one g=>exact ⟨_,g⟩
 |snoc _ _ ih=>exact ih
end
variable {R:VR} {F:PH}
set_option maxHeartbeats 4000000
def Ux (c:Γ) (R:VR) (F:PH):Prop:=Nb F (mX c 39) λf F=>Nb F (mX (#[oY nS]) 4) λd F=>rj F (Am d 0) (oY nS) λF=>Lr F 9 (Am f 0) λe=>Ci 78 #[oc e,.func (.func 79) #[] #[(Pp d)]] F λa F=>Bc (a=0) (Lb F (Am d 0) λb=>Bb (b) (R (vi 60) F) (R (vi a) F)) (R (vi a) F)
theorem qgB {a:Γ} (h:Ux a R F):ν 47 #[oc a] F R:=Rx.Λ .N h
def HY (b:ξ) (g e:Nat) (R:VR) (F:PH):Prop:=Fn b λf c d=>aj prog f (c++([(Pp e)]).toArray++d) F λv F=>v=(sj #[])/\rj F (Am g 0) (vi 0) λF=>Li F (Am g 0) λa=>R (vi a) F
def HZ (d:Ω) (_:ξ) (_ _ _:Nat) (_:Sl) (a:Int) (_:VR) (F:PH):Prop:=d (i64.wrap (a+1)) F
def A3 (i:Ω) (b:ξ) (j k c l:Nat) (d:Sl) (e:Int) (R:VR) (F:PH):Prop:=Ls F (Am c 9) λf=>Lr F 2 (Am l 0) λa=>a.size=2/\Nb F (mX a 33) λh F=>Ap 205 #[nV f,nV (Sb h 1)] F λg F=>rj F (Am c 9) (nV g) λF=>HZ i b j k c d e R F
def vK (_ f:Ω) (_:ξ) (_ _ _ _:Nat) (_:Sl) (_:Int) (_:Sl) (a:Int) (_:VR) (F:PH):Prop:=f (i64.wrap (a+1)) F
def vL (u x:Ω) (b:ξ) (l w k m:Nat) (f:Sl) (g:Int) (c:Sl) (R:VR) (a:Int) (F:PH):Prop:=Bc (a<(c.len:Int)) (Ix c a λn=>Lr F 2 (od n (pc a*2)) λo=>Nb F (mX (#[oY nS,vi 0]) 130) λh F=>aB F (Am h 0) 2 o λF=>Lb F (Am h 0) λp=>Bb (p) (Lr F 2 (Am m 0) λq=>Ls F (Am l 3) λi=>Li F (Am h 1) λd=>Ix i d λr=>Lr F 2 (od (od r (pc d*7)) 5) λs=>ν 109 #[oc q,oc s] F λv F=>∃j,∃e,v=(sj #[oc j,(vi e)])/\F.cell (Am h 1)=mB (vi d)/\F.cell (Am l 3)=mB (nV i)/\Ca 108 #[oc j,(vi e)] F λt F=>F.cell (Am h 1)=mB (vi d)/\F.cell (Am l 3)=mB (nV i)/\aB F (Am m 0) 2 t λF=>vK u x b l w k m f g c a R F) (vK u x b l w k m f g c a R F)) (A3 u b l w k m f g R F)
def A4 (t:Ω) (c:ξ) (q r g:Nat) (d:Sl) (R:VR) (a:Int) (F:PH):Prop:=Bc (a<(d.len:Int)) (Ix d a λh=>Lr F 13 (od h (pc a*13)) λi=>Nb F (mX zP 64) λo F=>aB F (Am o 0) 13 i λF=>Lr F 2 (Am q 1) λj=>Lr F 2 (Am o 3) λk=>ν 109 #[oc j,oc k] F λv F=>∃e,∃b,v=(sj #[oc e,(vi b)])/\Ca 108 #[oc e,(vi b)] F λl F=>Nb F (mX zD 33) λs F=>aB F (Am s 0) 2 l λF=>Ls F (Am o 2) λm=>(∃(p:Nat->Ω) (n:Nat),p n 0 F/\∀n f F,p n f F-> vL t (WX p n) c q r g s d a m R f F)) (HY c r g R F)
def Uy (j:Γ) (d:ξ) (R:VR) (F:PH):Prop:=Nb F (mX j 39) λh F=>Nb F (mX (#[vi 0]) 49) λi F=>Lr F 9 (Am h 0) λe=>Ci 104 #[oc e] F λb F=>Bc (b≠0) (rj F (Am i 0) (vi b) λF=>Li F (Am i 0) λa=>R (vi a) F) (BJ prog ⟨.fn (.func 107) #[(Pp i)],#[]++[].toArray⟩/\Lr F 9 (Am h 0) λc=>c.size=9/\Nb F (mX (wr (#[tU nC 0 0,.slice nC 0 0,vi 0,.slice nC 0 0,.slice nC 0 0,.slice nC 0 0,vi 0,.slice nC 0 0,.slice nC 0 0,.slice nC 0 0]:Γ) 0 c.toList) 207) λk F=>Ls F (Am h 5) λf=>Lp 0 F λN g F=>A4 N d h i k f R g F)
theorem qgC {b:Γ} {a:ξ} (h:Uy b a R F):ν 78 #[oc b,a] F R:=Rx.Λ (.qa8 (.qa8 (.qa8 (.qa8 (.J nS [] (.qa8 (.L [(24,.int .i64)] (.qa8 (.qa8 (.J nS [] (.qa8 (.qa8 (.J nS [] (.qa8 (.L [(39,.int .i64)] (.qa8 (.qa8 (.J nS [] .N .N))))) .N))) .N))))) .N))))) h
def H0 (i:Ψ) (h:Θ) (j:Nat) (R:VR) (F:PH):Prop:=aH prog (Instr.next (Pp j) nS 0) F λv F=>∃d,v=(sj d)/\∃e,d[0]? =mB (oY e)/\Bb (e) (∃b,s9 prog (Instr.entry (Pp j)) F (sj b)/\∃c,b[1]? =mB (oc c)/\Nb F (mX zD 33) λk F=>aB F (Am k 0) 2 c λF=>∃a,h=mB a/\Lb F a λf=>Bb (f) (rj F a (oY nZ) λF=>i F) (Li F (Am k 1) λg=>rj F a (oY (decide (g≠0))) λF=>i F)) (R (sj #[]) F)
def Uz (c d:Θ) (R:VR) (F:PH):Prop:=ν 80 #[pj c] F λv F=>∃a:Option Nat,v=(.map a)/\aH prog (Instr.range 170 (.map a)) F λv F=>∃f:Nat,v=(Pp f)/\(∃(e:Nat->Ψ) (b:Nat),e b F/\∀b F,e b F-> H0 (λF=>∃g,g<b/\e g F) d f R F)
theorem qgD {a:Θ} {b:Θ} (h:Uz a b R F):ν 79 #[pj a,pj b] F R:=Rx.Λ (.qa8 (.L [] .N)) h
def Ia (a:Nat) (R:VR) (F:PH):Prop:=R (.map (mB a)) F
def vM (e:Ω) (_:Addr) (_ _ _:Nat) (_:Sl) (a:Int) (_:VR) (F:PH):Prop:=e (i64.wrap (a+1)) F
def Ib (i:Ω) (f:Addr) (j g c:Nat) (a:Int) (h:Nat) (d:Sl) (R:VR) (F:PH):Prop:=∃b:Option Nat,F.cell (Am h 0)=mB (.map b)/\Ca 116 #[.map b,(vi a)] F λe F=>aH prog (Instr.mapUpdate 170 (.map (mB c)) (vi a) (oc e)) F λ_ F=>vM i f j g c d a R F
def Ic (q:Ω) (o:Ψ) (l:Addr) (p m n:Nat) (c:Int) (g d:Nat) (h:Sl) (R:VR) (F:PH):Prop:=Ls F (Am d 0) λi=>Bc ((0:Int)<(i.len:Int)) (Ls F (Am d 0) λj=>Ix j 0 λk=>Li F (od k (pc 0*1)) λb=>Ls F (Am d 0) λa=>1<=a.len/\a.len<=a.cap/\rj F (Am d 0) (nV (xy a 1 1 a.len a.cap)) λF=>Bc (b≠c) (∃e:Option Nat,F.cell (Am g 0)=mB (.map e)/\∃f,s9 prog (Instr.lookup 170 (.map e) (vi b) nS) F (oc f)/\Cu 115 #[(vi b),oc f,(Pp m),(Pp g),(Pp p),(Pp d)] F λF=>o F) (o F)) (Ib q l p m n c g h R F)
def A5 (p:Ω) (c:Addr) (n g d:Nat) (b:Sl) (R:VR) (a:Int) (F:PH):Prop:=Bc (a<(b.len:Int)) (∃e:Option Nat,F.cell (Am g 0)=mB (.map e)/\∃f,s9 prog (Instr.lookup 215 (.map e) (vi a) nS) F (nV f)/\Bc ((f.len:Int)=0) (vM p c n g d b a R F) (Nb F (.map #[] 0) λk F=>Nb F (mX (#[.map nC]) 170) λh F=>rj F (Am h 0) (.map (mB k)) λF=>Nb F (mX #[] 3) λl F=>Nb F (mX (#[tU nC 0 0]) 76) λi F=>rj F (Am i 0) (nV (Sb l 0)) λF=>Lr F 2 (od c 1) λj=>Cu 115 #[(vi a),oc j,(Pp g),(Pp h),(Pp n),(Pp i)] F λF=>(∃(o:Nat->Ψ) (m:Nat),o m F/\∀m F,o m F-> Ic p (λF=>∃q,q<m/\o q F) c n g d a h i b R F))) (Ia d R F)
def vN (e:Θ) (g f:Nat) (R:VR) (F:PH):Prop:=Nb F (.map #[] 0) λd F=>∃a,e=mB a/\Ls F (od a 4) λb=>Lp 0 F λN c F=>A5 N a g f d b R c F
def Id (q:Ψ) (p:Θ) (r d l:Nat) (R:VR) (F:PH):Prop:=aH prog (Instr.next (Pp l) nS 0) F λv F=>∃e,v=(sj e)/\∃f,e[0]? =mB (oY f)/\Bb (f) (∃g,s9 prog (Instr.entry (Pp l)) F (sj g)/\∃h,g[0]? =mB (oc h)/\Nb F (mX (#[vi 0,vi 0]) 213) λc F=>aB F (Am c 0) 2 h λF=>∃a:Option Nat,F.cell (Am d 0)=mB (.map a)/\0<=(0:Int)/\(0:Int)<2/\Li F (od (Am c 0) (pc 0*1)) λi=>∃b:Option Nat,F.cell (Am d 0)=mB (.map b)/\0<=(0:Int)/\(0:Int)<2/\Li F (od (Am c 0) (pc 0*1)) λj=>∃k,s9 prog (Instr.lookup 215 (.map b) (vi j) nS) F (nV k)/\0<=(1:Int)/\(1:Int)<2/\Li F (od (Am c 0) (pc 1*1)) λm=>Nb F (mX #[(vi m)] 3) λo F=>Ap 76 #[nV k,nV (Sb o 1)] F λn F=>F.cell (od (Am c 0) (pc 0*1))=mB (vi j)/\F.cell (Am d 0)=mB (.map b)/\F.cell (od (Am c 0) (pc 0*1))=mB (vi i)/\F.cell (Am d 0)=mB (.map a)/\aH prog (Instr.mapUpdate 215 (.map a) (vi i) (nV n)) F λ_ F=>q F) (vN p r d R F)
def vO (e:Θ) (h:Nat) (R:VR) (F:PH):Prop:=Nb F (.map #[] 0) λf F=>Nb F (mX (#[.map nC]) 215) λc F=>rj F (Am c 0) (.map (mB f)) λF=>∃a:Option Nat,F.cell (Am h 0)=mB (.map a)/\aH prog (Instr.range 211 (.map a)) F λv F=>∃b:Nat,v=(Pp b)/\(∃(g:Nat->Ψ) (d:Nat),g d F/\∀d F,g d F-> Id (λF=>∃i,i<d/\g i F) e h c b R F)
def Ie (e:Ω) (_:Addr) (_:Option Nat) (_:Nat) (_:Sl) (a:Int) (_:VR) (F:PH):Prop:=e (i64.wrap (a+1)) F
def nB (_ g:Ω) (_:Addr) (_:Option Nat) (_:Nat) (_:Int) (_:Nat) (_ _:Sl) (a:Int) (_:VR) (F:PH):Prop:=g (i64.wrap (a+1)) F
def If (x y:Ω) (b:Addr) (f:Option Nat) (n:Nat) (g:Int) (w z o:Nat) (h i:Sl) (j:Int) (R:VR) (F:PH):Prop:=Li F (Am o 1) λp=>Bc (p≠0) (Li F (Am w 1) λq=>Li F (Am z 1) λr=>Nb F (mX (#[vi 0,vi 0]) 213) λe F=>aB F (Am e 0) 2 (#[(vi q),(vi r)]:Γ) λF=>∃a:Option Nat,F.cell (Am n 0)=mB (.map a)/\Lr F 2 (Am e 0) λc=>∃k:Option Nat,F.cell (Am n 0)=mB (.map k)/\Lr F 2 (Am e 0) λs=>Lr F 2 (Am o 0) λl=>Ca 114 #[.map k,oc s] F λt F=>F.row (Am o 0) l/\F.row (Am e 0) c/\F.cell (Am n 0)=mB (.map a)/\ν 113 #[oc t,oc l] F λv F=>∃m,∃d,v=(sj #[oc m,(vi d)])/\F.row (Am e 0) c/\F.cell (Am n 0)=mB (.map a)/\Ca 108 #[oc m,(vi d)] F λu F=>F.row (Am e 0) c/\F.cell (Am n 0)=mB (.map a)/\aH prog (Instr.mapUpdate 211 (.map a) (oc c) (oc u)) F λ_ F=>nB x y b f n g w h i j R F) (nB x y b f n g w h i j R F)
def vP (_ _ i:Ω) (_:Addr) (_:Option Nat) (_:Nat) (_:Int) (_ _ _:Nat) (_ _:Sl) (_:Int) (_:Sl) (a:Int) (_:VR) (F:PH):Prop:=i (i64.wrap (a+1)) F
def A6 (o p t:Ω) (a:Addr) (d:Option Nat) (q:Nat) (e:Int) (r s i:Nat) (f g:Sl) (h:Int) (c:Sl) (R:VR) (b:Int) (F:PH):Prop:=Bc (b<(c.len:Int)) (Ix c b λj=>Lr F 2 (od j (pc b*2)) λk=>Nb F (mX (#[oY nS,vi 0]) 130) λl F=>aB F (Am l 0) 2 k λF=>Lb F (Am l 0) λm=>Bb (m) (Ca 112 #[oY nS] F λn F=>aB F (Am i 0) 2 n λF=>vP o p t a d q e r s i f g h c b R F) (vP o p t a d q e r s i f g h c b R F)) (If o p a d q e r s i f g h R F)
def A7 (v A:Ω) (c:Addr) (f:Option Nat) (w:Nat) (d:Int) (i:Nat) (h g:Sl) (R:VR) (a:Int) (F:PH):Prop:=Bc (a<(g.len:Int)) (Ix g a λl=>Lr F 2 (od l (pc a*2)) λm=>Nb F (mX (#[oY nS,vi 0]) 130) λx F=>aB F (Am x 0) 2 m λF=>Lb F (Am x 0) λn=>Bb (n) (nB v A c f w d i h g a R F) (Ls F (Am i 2) λe=>0<=a/\0<=(pc a)/\(pc a)<=e.cap/\Ls F (Am i 2) λb=>0<=(i64.wrap (a+1))/\(pc (i64.wrap (a+1)))<=b.len/\b.len<=b.cap/\Nb F (mX #[] 130) λy F=>Ap 61 #[nV (Sb y 0),nV (xy e 2 0 (pc a) e.cap)] F λo F=>F.cell (Am i 2)=mB (nV b)/\F.cell (Am i 2)=mB (nV e)/\Ap 61 #[nV o,nV (xy b 2 (pc (i64.wrap (a+1))) b.len b.cap)] F λj F=>F.cell (Am i 2)=mB (nV b)/\F.cell (Am i 2)=mB (nV e)/\Ls F (od c 9) λp=>Ix p d λq=>Lr F 2 (od q (pc d*2)) λr=>Ca 111 #[oc r,nV j,.map f] F λs F=>Nb F (mX zD 33) λt F=>aB F (Am t 0) 2 s λF=>(∃(z:Nat->Ω) (u:Nat),z u 0 F/\∀u k F,z u k F-> A6 v A (WX z u) c f w d i x t h g a j R k F))) (Ie v c f w h d R F)
def vQ (m:Ω) (a:Addr) (e:Option Nat) (l:Nat) (c:Sl) (R:VR) (b:Int) (F:PH):Prop:=Bc (b<(c.len:Int)) (Ix c b λf=>Lr F 13 (od f (pc b*13)) λg=>Nb F (mX zP 64) λj F=>aB F (Am j 0) 13 g λF=>Ls F (Am j 2) λh=>(∃(k:Nat->Ω) (i:Nat),k i 0 F/\∀i d F,k i d F-> A7 m (WX k i) a e l b j c h R d F)) (vO (mB a) l R F)
def UA (c:Θ) (R:VR) (F:PH):Prop:=ν 110 #[pj c,oY nZ] F λv F=>∃b:Option Nat,v=(.map b)/\Nb F (.map #[] 0) λf F=>Nb F (mX (#[.map nC]) 211) λg F=>rj F (Am g 0) (.map (mB f)) λF=>∃a,c=mB a/\Ls F (od a 5) λd=>Lp 0 F λN e F=>vQ N a b g d R e F
theorem qgE {a:Θ} (h:UA a R F):ν 80 #[pj a] F R:=Rx.Λ (.qa8 (.qa8 (.qa8 (.J nS [(0,.ptr)] (.qa8 (.L [(31,.int .i64)] (.qa8 (.qa8 (.J nS [] (.qa8 (.qa8 (.L [(39,.int .i64)] (.qa8 (.qa8 (.J nS [] (.qa8 (.qa8 (.qa8 (.qa8 (.J nS [] (.qa8 (.L [(70,.int .i64)] (.qa8 (.qa8 (.J nS [] .N .N))))) .N))))) .N)))))) .N))))) (.qa8 (.J nS [] (.qa8 (.L [] .N)) (.qa8 (.J nS [] (.qa8 (.L [(123,.int .i64)] (.qa8 (.qa8 (.J nS [] (.qa8 (.qa8 (.qa8 (.qa8 (.qa8 (.qa8 (.J nS [] (.L [] .N) .N))))))) .N))))) .N)))))))) h
def N9 (b:Γ) (c:Int) (R:VR) (F:PH):Prop:=Nb F (mX b 33) λe F=>Nb F (mX zD 33) λd F=>Bc (c≠0) (False) (Lr F 2 (Am e 0) λa=>aB F (Am d 0) 2 a λF=>Rr 2 (Am d 0) R F)
theorem UB {a:Γ} {b:Int} (h:N9 a b R F):ν 108 #[oc a,(vi b)] F R:=Rx.Λ .N h
def Oa (e:Θ) (a:Bool) (R:VR) (F:PH):Prop:=Nb F (mX #[pj e] 169) λf F=>Nb F (mX #[oY a] 4) λg F=>Nb F (.map #[] 0) λh F=>Nb F (mX (#[.map nC]) 170) λd F=>rj F (Am d 0) (.map (mB h)) λF=>∃c:Option Nat,F.cell (Am d 0)=mB (.map c)/\Cu 150 #[.map c,.func (.func 151) #[] #[(Pp f),(Pp g),(Pp d)]] F λF=>∃b:Option Nat,F.cell (Am d 0)=mB (.map b)/\R (.map b) F
theorem UC {b:Θ} {a:Bool} (h:Oa b a R F):ν 110 #[pj b,oY a] F R:=Rx.Λ .N h
def C5 (c b:Nat) (R:VR) (F:PH):Prop:=Lr F 2 (Am c 0) λa=>aB F (Am b 0) 2 a λF=>Rr 2 (Am b 0) R F
def px (c:Ω) (_:Option Nat) (_ _:Nat) (_:Sl) (a:Int) (_:VR) (F:PH):Prop:=c (i64.wrap (a+1)) F
def py (l:Ω) (a:Option Nat) (f m n:Nat) (g:Sl) (c:Int) (h:Bool) (R:VR) (F:PH):Prop:=Bb (h) (Lr F 2 (Am f 0) λd=>Li F (Am n 1) λi=>Ca 116 #[.map a,(vi i)] F λj F=>F.row (Am f 0) d/\ν 109 #[oc d,oc j] F λv F=>∃e,∃b,v=(sj #[oc e,(vi b)])/\Ca 108 #[oc e,(vi b)] F λk F=>aB F (Am f 0) 2 k λF=>px l a f m g c R F) (px l a f m g c R F)
def vR (k:Ω) (b:Option Nat) (h j:Nat) (c:Sl) (R:VR) (a:Int) (F:PH):Prop:=Bc (a<(c.len:Int)) (Ix c a λd=>Lr F 2 (od d (pc a*2)) λe=>Nb F (mX (#[oY nS,vi 0]) 130) λi F=>aB F (Am i 0) 2 e λF=>Lb F (Am i 0) λf=>Bb ((!f)) (Li F (Am h 1) λg=>py k b h j i c a (decide (g≠0)) R F) (py k b h j i c a nS R F)) (C5 h j R F)
def Ob (c:Γ) (d:Sl) (a:Option Nat) (R:VR) (F:PH):Prop:=Nb F (mX c 33) λe F=>Nb F (mX zD 33) λf F=>Lp 0 F λN b F=>vR N a e f d R b F
theorem UD {b:Γ} {c:Sl} {a:Option Nat} (h:Ob b c a R F):ν 111 #[oc b,nV c,.map a] F R:=Rx.Λ (.qa8 (.J nS [] (.qa8 (.L [(11,.int .i64)] (.qa8 (.qa8 (.J nS [] (.qa8 (.J nS [(22,.bool)] .N .N)) .N))))) .N)) h
def Oc (b:Option Nat) (g:Γ) (R:VR) (F:PH):Prop:=Nb F (mX g 213) λj F=>Nb F (mX zD 33) λf F=>Lr F 2 (Am j 0) λh=>∃(c:Γ) (a:Bool),s9 prog (Instr.lookup 211 (.map b) (oc h) nZ) F (sj #[oc c,oY a])/\Nb F (mX zD 33) λi F=>aB F (Am i 0) 2 c λF=>Bb (a) (Lr F 2 (Am i 0) λd=>aB F (Am f 0) 2 d λF=>Rr 2 (Am f 0) R F) (Ca 112 #[oY nS] F λe F=>aB F (Am f 0) 2 e λF=>Rr 2 (Am f 0) R F)
theorem UE {a:Option Nat} {b:Γ} (h:Oc a b R F):ν 114 #[.map a,oc b] F R:=Rx.Λ .N h
def pz (d:Ω) (_:Int) (_ _ _:Θ) (_:Nat) (_:Sl) (a:Int) (_:VR) (F:PH):Prop:=d (i64.wrap (a+1)) F
def g0 (t:Ω) (b:Int) (d:Addr) (j k:Θ) (u:Nat) (f:Int) (r:Nat) (g:Sl) (h:Int) (e:Θ) (R:VR) (F:PH):Prop:=Lr F 2 (Am r 0) λl=>∃a,e=mB a/\Lr F 2 a λm=>vc 117 #[oc l,oc m] F λn F=>Bb ((!n)) (∃i:Option Nat,F.cell d=mB (.map i)/\Lr F 2 a λo=>aH prog (Instr.mapUpdate 170 (.map i) (vi f) (oc o)) F λ_ F=>∃c,k=mB c/\Ls F c λp=>Nb F (mX #[(vi f)] 3) λs F=>Ap 76 #[nV p,nV (Sb s 1)] F λq F=>rj F c (nV q) λF=>pz t b (mB d) j (mB c) u g h R F) (pz t b (mB d) j k u g h R F)
def vS (N:Ω) (c:Int) (T U t:Θ) (M:Nat) (g:Sl) (R:VR) (e:Int) (F:PH):Prop:=Bc (e<(g.len:Int)) (Ix g e λO=>Li F (od O (pc e*1)) λh=>∃i,T=mB i/\∃J:Option Nat,F.cell i=mB (.map J)/\Ca 116 #[.map J,(vi h)] F λP F=>Nb F (mX zD 33) λf F=>aB F (Am f 0) 2 P λF=>Lr F 2 (Am f 0) λd=>Lr F 2 (Am M 0) λK=>∃a,U=mB a/\∃b:Option Nat,F.cell a=mB (.map b)/\∃u,s9 prog (Instr.lookup 211 (.map b) (oc (#[(vi c),(vi h)]:Γ)) nS) F (oc u)/\((ν 109 #[oc K,oc u] F λv F=>∃w,∃j,v=(sj #[oc w,(vi j)])/\F.cell a=mB (.map b)/\F.row (Am f 0) d/\((Ca 108 #[oc w,(vi j)] F λL F=>F.cell a=mB (.map b)/\F.row (Am f 0) d/\((ν 113 #[oc d,oc L] F λv F=>∃x,∃k,v=(sj #[oc x,(vi k)])/\F.cell a=mB (.map b)/\((Ca 108 #[oc x,(vi k)] F λQ F=>F.cell a=mB (.map b)/\Nb F (mX zD 33) λS F=>aB F (Am S 0) 2 Q λF=>g0 N c i (mB a) t M h f g e (mB (Am S 0)) R F)/\(Nb F (mX zD 33) λy F=>Ca 108 #[oc x,(vi k)] F λC F=>F.cell a=mB (.map b)/\aB F (Am y 0) 2 C λF=>g0 N c i (mB a) t M h f g e (mB (Am y 0)) R F)))/\(Nb F (mX zD 33) λz F=>ν 113 #[oc d,oc L] F λv F=>∃l,∃m,v=(sj #[oc l,(vi m)])/\F.cell a=mB (.map b)/\Ca 108 #[oc l,(vi m)] F λD F=>F.cell a=mB (.map b)/\aB F (Am z 0) 2 D λF=>g0 N c i (mB a) t M h f g e (mB (Am z 0)) R F)))/\(Nb F (mX zD 33) λA F=>Ca 108 #[oc w,(vi j)] F λE F=>F.cell a=mB (.map b)/\F.row (Am f 0) d/\ν 113 #[oc d,oc E] F λv F=>∃n,∃o,v=(sj #[oc n,(vi o)])/\F.cell a=mB (.map b)/\Ca 108 #[oc n,(vi o)] F λG F=>F.cell a=mB (.map b)/\aB F (Am A 0) 2 G λF=>g0 N c i (mB a) t M h f g e (mB (Am A 0)) R F)))/\(Nb F (mX zD 33) λB F=>ν 109 #[oc K,oc u] F λv F=>∃p,∃q,v=(sj #[oc p,(vi q)])/\F.cell a=mB (.map b)/\F.row (Am f 0) d/\Ca 108 #[oc p,(vi q)] F λH F=>F.cell a=mB (.map b)/\F.row (Am f 0) d/\ν 113 #[oc d,oc H] F λv F=>∃r,∃s,v=(sj #[oc r,(vi s)])/\F.cell a=mB (.map b)/\Ca 108 #[oc r,(vi s)] F λI F=>F.cell a=mB (.map b)/\aB F (Am B 0) 2 I λF=>g0 N c i (mB a) t M h f g e (mB (Am B 0)) R F))) (R (sj #[]) F)
def Od (a:Int) (f:Γ) (g h i j:Θ) (R:VR) (F:PH):Prop:=Nb F (mX f 33) λk F=>∃b,g=mB b/\∃c:Option Nat,F.cell b=mB (.map c)/\∃d,s9 prog (Instr.lookup 215 (.map c) (vi a) nS) F (nV d)/\Lp 0 F λN e F=>vS N a h i j k d R e F
theorem UF {a:Int} {b:Γ} {c:Θ} {d:Θ} {e:Θ} {f:Θ} (h:Od a b c d e f R F):ν 115 #[(vi a),oc b,pj c,pj d,pj e,pj f] F R:=Rx.Λ (.qa8 (.qa8 (.L [(16,.int .i64)] (.qa8 (.qa8 (.J nS [(3,.ptr),(5,.ptr)] (.qa8 (.qa8 (.J nS [(4,.ptr),(11,.ptr)] .N .N))) .N)))))) h
def Oe (b:Option Nat) (g:Int) (R:VR) (F:PH):Prop:=Nb F (mX zD 33) λf F=>∃(c:Γ) (a:Bool),s9 prog (Instr.lookup 170 (.map b) (vi g) nZ) F (sj #[oc c,oY a])/\Nb F (mX zD 33) λh F=>aB F (Am h 0) 2 c λF=>Bb (a) (Lr F 2 (Am h 0) λd=>aB F (Am f 0) 2 d λF=>Rr 2 (Am f 0) R F) (Ca 112 #[oY nS] F λe F=>aB F (Am f 0) 2 e λF=>Rr 2 (Am f 0) R F)
theorem UG {a:Option Nat} {b:Int} (h:Oe a b R F):ν 116 #[.map a,(vi b)] F R:=Rx.Λ .N h
def C6 (i:Θ->Ψ) (c:ξ) (j:Nat) (R:VR) (b:Θ) (F:PH):Prop:=∃a,b=mB a/\Lb F a λg=>Bb (g) (rj F a (oY nS) λF=>Fn c λk e f=>aj prog k (e++([(Value.func (.func 187) #[] #[(Pp j),(pj (mB a))])]).toArray++f) F λv F=>v=(sj #[])/\Lb F a λh=>Nb F (mX (#[oY nS]) 4) λd F=>rj F (Am d 0) (oY h) λF=>i (mB (Am d 0)) F) (R (sj #[]) F)
def Of (c:Option Nat) (b:ξ) (R:VR) (F:PH):Prop:=Nb F (mX #[.map c] 170) λg F=>Nb F (mX (#[oY nS]) 4) λf F=>rj F (Am f 0) (oY nZ) λF=>(∃(e:Nat->Θ->Ψ) (d:Nat),e d (mB (Am f 0)) F/\∀d a F,e d a F-> C6 (WX e d) b g R a F)
theorem UH {b:Option Nat} {a:ξ} (h:Of b a R F):ν 150 #[.map b,a] F R:=Rx.Λ (.qa8 (.qa8 (.L [(4,.ptr)] .N))) h
def pC (e:Ω) (_:ξ) (_:Addr) (_ _:Θ) (_:Sl) (a:Int) (_:VR) (F:PH):Prop:=e (i64.wrap (a+1)) F
def C7 (u:Ω) (c:ξ) (b:Addr) (q r:Θ) (d:Int) (s:Nat) (l:Sl) (R:VR) (F:PH):Prop:=Li F (Am s 1) λh=>Lq F b λe=>∃a,e=mB a/\Ls F (od a 9) λf=>Ix f d λm=>Lr F 2 (od m (pc d*2)) λn=>Ls F (Am s 2) λo=>∃g,r=mB g/\∃i:Option Nat,F.cell g=mB (.map i)/\Ca 111 #[oc n,nV o,.map i] F λp F=>F.cell (od a 9)=mB (nV f)/\F.cell b=mB (pj e)/\F.cell (Am s 1)=mB (vi h)/\Fn c λt j k=>aj prog t (j++([(vi h),(oc p)]).toArray++k) F λv F=>v=(sj #[])/\F.cell (od a 9)=mB (nV f)/\F.cell b=mB (pj e)/\pC u c b q (mB g) l d R F
def pD (_ g:Ω) (_:ξ) (_:Addr) (_ _:Θ) (_:Int) (_:Nat) (_ _:Sl) (a:Int) (_:VR) (F:PH):Prop:=g (i64.wrap (a+1)) F
def vT (n p:Ω) (a:ξ) (c:Addr) (i h:Θ) (d:Int) (o:Nat) (e f:Sl) (R:VR) (b:Int) (F:PH):Prop:=Bc (b<(f.len:Int)) (Ix f b λj=>Lr F 2 (od j (pc b*2)) λk=>Nb F (mX (#[oY nS,vi 0]) 130) λq F=>aB F (Am q 0) 2 k λF=>Lb F (Am q 0) λl=>Bb (l) (∃g,i=mB g/\Lb F g λm=>Bb (m) (pC n a c (mB g) h e d R F) (pD n p a c (mB g) h d o e f b R F)) (pD n p a c i h d o e f b R F)) (C7 n a c i h d o e R F)
def vU (n:Ω) (d:ξ) (e:Addr) (j k:Θ) (b:Sl) (R:VR) (a:Int) (F:PH):Prop:=Bc (a<(b.len:Int)) (Ix b a λf=>Lr F 13 (od f (pc a*13)) λg=>Nb F (mX zP 64) λl F=>aB F (Am l 0) 13 g λF=>Ls F (Am l 2) λh=>(∃(m:Nat->Ω) (i:Nat),m i 0 F/\∀i c F,m i c F-> vT n (WX m i) d e j k a l b h R c F)) (R (sj #[]) F)
def Og (c:ξ) (f g h:Θ) (R:VR) (F:PH):Prop:=∃a,f=mB a/\Lq F a λi=>∃b,i=mB b/\Ls F (od b 5) λd=>Lp 0 F λN e F=>vU N c a g h d R e F
theorem UI {a:ξ} {b:Θ} {c:Θ} {d:Θ} (h:Og a b c d R F):ν 151 #[a,pj b,pj c,pj d] F R:=Rx.Λ (.qa8 (.qa8 (.L [(15,.int .i64)] (.qa8 (.qa8 (.J nS [(2,.ptr),(3,.ptr)] (.qa8 (.J nS [] (.qa8 (.L [(23,.int .i64)] (.qa8 (.qa8 (.J nS [(2,.ptr)] .N .N))))) .N)) .N)))))) h
def Oh (g:Int) (p:Γ) (q r:Θ) (R:VR) (F:PH):Prop:=Nb F (mX p 33) λw F=>Li F (Am w 1) λs=>Bc (s=0) (R (sj #[]) F) (∃b,q=mB b/\∃c:Option Nat,F.cell b=mB (.map c)/\Ca 116 #[.map c,(vi g)] F λh F=>Nb F (mX zD 33) λt F=>aB F (Am t 0) 2 h λF=>Lr F 2 (Am t 0) λi=>Lr F 2 (Am w 0) λj=>ν 113 #[oc i,oc j] F λv F=>∃d,∃a,v=(sj #[oc d,(vi a)])/\Ca 108 #[oc d,(vi a)] F λk F=>Nb F (mX zD 33) λu F=>aB F (Am u 0) 2 k λF=>Lr F 2 (Am t 0) λl=>Lr F 2 (Am u 0) λm=>vc 117 #[oc l,oc m] F λn F=>Bb ((!n)) (∃e:Option Nat,F.cell b=mB (.map e)/\Lr F 2 (Am u 0) λo=>aH prog (Instr.mapUpdate 170 (.map e) (vi g) (oc o)) F λ_ F=>∃f,r=mB f/\rj F f (oY nZ) λF=>R (sj #[]) F) (R (sj #[]) F))
theorem UJ {a:Int} {b:Γ} {c:Θ} {d:Θ} (h:Oh a b c d R F):ν 187 #[(vi a),oc b,pj c,pj d] F R:=Rx.Λ .N h
section
variable {κ:Type} {enc:κ->ξ} {G G0 G1 F:PH} {As:List (Ψ)} {m:Nat} {S S':κ->Tr} {mp mp':κ->Option ξ}
def iY (G:PH) (S:κ->Tr) (mp:κ->Option ξ):Prop:=∀n,(mp n=nC/\S n=qa6 nS)\/∃w,mp n=mB (oc w)/\DV G w (ph (S n))
theorem iY.le (h:iY G0 S mp) (l:G0.le G):iY G S mp:=λn=>(h n).imp id λ⟨w,r,g⟩=>⟨w,r,g.le l⟩
theorem iY.empty (G:PH):iY G (λ_:κ=>qa6 nS) (λ_=>nC):=λ_=> .inl ⟨rfl,rfl⟩
variable [DecidableEq κ]
theorem iY.put (h:iY G S mp) {n:κ} {w:Γ} {t:Tr} (hd:DV G w (ph t)):iY G (jX S n t) (λk=>if k=n then mB (oc w) else mp k):=λk=>by
 unfold jX;dsimp only;by_cases e:k=n
 ·rw [Χ e,Χ e];exact .inr ⟨w,rfl,hd⟩
 ·rw [Υ e,Υ e];exact h k
def mS (enc:κ->ξ) (G:PH) (m:Nat) (S:κ->Tr):Ψ:=λH=>∃o mp,H m=mB o/\dW enc mp o/\iY G S mp
theorem St.mS_at (h:St G F As) {i:Nat} (hi:As[i]? =mB (mS enc G0 m S)):∃o mp,F m=mB o/\dW enc mp o/\iY G0 S mp:=by obtain ⟨H,⟨o,mp,A,r,w⟩,_,g⟩:=h.get hi;exact ⟨o,mp,g _ _ A,r,w⟩
theorem St.mS_set (h:St G F As) (i:Nat) (hi:As[i]? =mB (mS enc G0 m S)) {o':Obj} (A:dW enc mp' o') (B:iY G1 S' mp'):St G (F.set m o') (As.set i (mS enc G1 m S')):=by
 obtain ⟨H,⟨o,mp,r,_,_⟩,E,D,C⟩:=h.set (A':=mS enc G1 m S') hi;refine C (H.set m o') _ ⟨o',mp',aq _ _ _,A,B⟩ (λx g=> ?_) (λx p g=> ?_) (λx p g w=> ?_)
 ·by_cases e:x=m
  ·rw [e,r];exact .inl (by simp)
  ·rw [aw _ _ e] at g;exact .inl g
 ·by_cases e:x=m
  ·rw [e,aq] at g ⊢;exact g
  ·rw [aw _ _ e] at g ⊢;exact D _ _ g
 ·have e:x≠m:=λe=>by rw [e,r] at w;cases w
  rw [aw _ _ e];exact g
end
theorem Ig:fO prog 170 bg (.agg zD):=⟨_,_,underlying170,SN,Mh⟩
theorem Rm:fO prog 211 gx (.agg zD):=⟨_,_,underlying211,SN,qgP⟩
theorem ci {F:PH} {w:Γ} {d:wc} (hd:DV F w d):ν 108 #[oc w,vi 0] F λr g=>r=oc w/\F.le g:=by refine UB ?_;unfold N9;refine fresh λD B C q2 _=> ?_;refine (St.start B).new λG F2 h=>⟨λA=>absurd rfl A,λ_=>⟨w,hd.size,ai (h.le _ _ q2),?_⟩⟩;refine h.put0 (w':=w) hd.size rfl hd.st λE h=>⟨w,hd.size,ai (h.ptAt (i:=0) rfl),rfl,aa C h.le⟩
section
variable {G G0 F:PH} {As:List (Ψ)} {m:Nat} {k:Nat}
theorem lQ {S:Int->Tr} (h:St G F (mS bg G0 m S::As)) (I:G0.le G) (n:Int):
  ν 116 #[.map (mB m),vi n] F λr H=>∃B w,r=oc w/\DV B w (ph (S n))/\G.le B/\St B H (mS bg G0 m S::As):=by
 refine UG ?_;unfold Oe;refine h.new λU P h=> ?_;obtain ⟨o,mp,N,K,L⟩:=h.mS_at (i:=1) rfl;have A:=bL (F:=P) Ig N K n nZ;rcases L n with ⟨D,E⟩|⟨w,D,E⟩
 ·rw [D] at A;refine ⟨_,_,A,?_⟩;refine h.new λQ F2 h=> ?_;refine h.put0 (w':=zD) rfl rfl (by simp [ak]) λO h=>⟨λC=>(by cases C),λ_=> ?_⟩;refine (h.call (gy nS)).mono ?_;rintro _ V ⟨B,⟨w,rfl,g,M⟩,h⟩;refine ⟨w,rfl,?_⟩;refine h.put1 (w':=w) g.size rfl g.st λJ h=>⟨w,g.size,ai (h.ptAt (i:=1) rfl),?_⟩;exact ⟨B,w,rfl,by rw [E];exact g,M,h.tail.tail⟩
 ·rw [D] at A;refine ⟨_,_,A,?_⟩;have g:=E.le I;refine h.new λQ F2 h=> ?_;refine h.put0 (w':=w) g.size rfl g.st λO h=>⟨λ_=>⟨w,g.size,ai (h.ptAt (i:=0) rfl),?_⟩,λC=>(by cases C)⟩;refine h.put1 (w':=w) g.size rfl g.st λJ h=>⟨w,g.size,ai (h.ptAt (i:=1) rfl),?_⟩;exact ⟨G,w,rfl,g,au _,h.tail.tail⟩
theorem A8 {a b:Tr} {u w:Γ} (A:k<=6) (h:Sx k a) (B:Sx k b) (E:DV F u (ph a)) (D:DV F w (ph b)):
  ν 113 #[oc u,oc w] F λr g=>∃x,r=sj #[oc x,vi 0]/\DV g x (ph (ap2 z9 a b))/\F.le g:=by
 refine (Mt E D).mono ?_;rintro r g ⟨⟨x,rfl,C⟩,l⟩;rw [IT (h.small A) (B.small A) ((h.ap2 (o:=z9) B).small A) (cC h.1 B.1).2] at C ⊢;exact ⟨x,rfl,C,l⟩
theorem pE {a b:Tr} {u w:Γ} (A:k<=6) (h:Sx k a) (B:Sx k b) (E:DV F u (ph a)) (D:DV F w (ph b)):
  ν 109 #[oc u,oc w] F λr g=>∃x,r=sj #[oc x,vi 0]/\DV g x (ph (ap2 bV a b))/\F.le g:=by
 refine (IN E D).mono ?_;rintro r g ⟨⟨x,rfl,C⟩,l⟩;rw [IT (h.small A) (B.small A) ((h.ap2 (o:=bV) B).small A) (cC h.1 B.1).2] at C ⊢;exact ⟨x,rfl,C,l⟩
theorem iZ {t:Tr} (h:t.ok):(ph t).2=0↔t=qa6 nS:=by
 refine ⟨λg=> ?_,λg=>by rw [g];rfl⟩;have w:num (aV t) t=0:=by have:((num (aV t) t:Nat):Int)=0:=g;omega
 have r:=qi (S:=aV t) (t:=t) (by omega);cases t with
 |qa7 _ _ _=>cases r
 |qa6 b=>
  cases b with
  |false=>rfl
  |true=>cases w
theorem qhs {a:Tr} (g:a.ok):ap2 z9 a (qa6 nS)=a:=eq_of_ev (cC g (b:=qa6 nS) trivial).1 g λc=>by rw [(cC g (b:=qa6 nS) trivial).2];exact YC _
theorem kO {g:Type} [DecidableEq g] {S:g->Tr} (h:Sxs k S) (n:g):dV S n (qa6 nS)=S:=by unfold dV;rw [qhs (h n).1,ue]
theorem pF {g:Type} [DecidableEq g] {S:g->Tr} {n:g} {d:Tr}:dV S n d=S↔ap2 z9 (S n) d=S n:=by
 constructor
 ·intro h;have:=congrFun h n;unfold dV jX at this;rwa [Χ rfl] at this
 ·intro h;unfold dV;rw [h,ue]
theorem Fz {S:Int->Tr} {b2 b4:Nat} {V:Bool} {w:Γ} {d:Tr} (h:St G F (mS bg G0 m S::pt b4 (mX #[oY V] 4)::As)) (U:G0.le G) (hk:k<=6) (J:Sxs k S) (W:Sx k d) (hd:DV G w (ph d))
  (h2:G.cell ⟨b2,0,nC⟩=mB (.map (mB m))) (n:Int):
  ν 187 #[vi n,oc w,pj (mB ⟨b2,0,nC⟩),pj (mB ⟨b4,0,nC⟩)] F λr K=>∃O Q,r=sj #[]/\(Q=nZ↔V=nZ\/dV S n d≠S)/\G.le O/\
   St O K (mS bg O m (dV S n d)::pt b4 (mX #[oY Q] 4)::As):=by
 refine UJ ?_;unfold Oh;have up:∀{G1 L K:PH} {S':Int->Tr} {E:List (Ψ)},St L K (mS bg G1 m S'::E)->G1.le L->St L K (mS bg L m S'::E):=λ{G1 L K S' E} h l=>h.imp 0 rfl λH _ ⟨o,mp,a1,a2,a3⟩=>⟨o,mp,a1,a2,a3.le l⟩;obtain ⟨s,rfl,_⟩:=id hd;refine h.newG λb5 G1 F1 B q5 _ h=>⟨_,ld (h.le _ _ q5) rfl,λh0=> ?_,λh0=> ?_⟩
 ·have e:=(iZ W.1).1 h0;refine ⟨G1,V,rfl,?_,B,?_⟩
  ·rw [e,kO J];simp
  ·rw [e,kO J];exact up h (aa U B)
 ·refine ⟨_,rfl,_,aK (aa B h.le) h2,?_⟩;refine (lQ h (aa U B) n).mono ?_;rintro _ F2 ⟨L,u,rfl,M,l2,h⟩;refine ⟨u,rfl,?_⟩;refine h.var M.st (λb6 G3 F3 l3 q6 h=> ?_) rfl M.size;have I:=aa l2 l3;refine ⟨u,M.size,ai (h.le _ _ q6),_,rfl,ai (h.le _ _ (I _ _ q5)),?_⟩;refine h.run (P:=λr O=>∃x,r=sj #[oc x,vi 0]/\DV O x (ph (ap2 z9 (S n) d))) ((A8 hk (J n) W (M.le l3) (hd.le (aa B I))).mono λr K ⟨x,a,b,c⟩=>⟨⟨x,a,b⟩,c⟩) λ_ G4 F4 hr l4 h=> ?_;obtain ⟨x,rfl,g⟩:=hr;refine ⟨_,_,rfl,?_⟩;refine h.runv (ci g) λG5 F5 l5 h=>⟨_,rfl,?_⟩;refine h.var g.st (λb7 G6 F6 l6 q7 h=> ?_) rfl g.size;have D:=aa l4 (aa l5 l6);refine ⟨u,M.size,ai (h.le _ _ (D _ _ q6)),x,g.size,ai (h.le _ _ q7),?_⟩;refine h.runv (nI (M.le (aa l3 D)) (g.le (aa l5 l6)) (DE ((J n).small hk))) λX F7 Y h=>⟨_,rfl,?_⟩;have A:=aa I (aa D Y);have kk:=(J n).ap2 (o:=z9) W;refine ⟨λC=> ?_,λhe=> ?_⟩
  ·have C:ap2 z9 (S n) d≠S n:=λe=>by rw [e,ε rfl] at C;cases C
   refine ⟨_,aK (aa (aa B A) h.le) h2,x,g.size,ai (h.le _ _ (Y _ _ q7)),?_⟩;obtain ⟨o,mp,m1,m2,m3⟩:=h.mS_at (i:=0) rfl;refine bh Ig m1 m2 n (oc x) λo' Z=> ?_;have N:=g.le (aa l5 (aa l6 Y));have h:=h.mS_set 0 rfl (G1:=X) (S':=dV S n d) Z ((m3.le (aa (aa U B) A)).put N);refine ⟨_,rfl,h.set1 (w':= #[oY nZ]) (vp rfl) rfl λF8 h=> ?_⟩;exact ⟨X,nZ,rfl,⟨λ_=> .inr λe=>C (pF.1 e),λ_=>rfl⟩,aa B A,h⟩
  ·have e:ap2 z9 (S n) d=S n:=by
    have:decide (ph (S n)=ph (ap2 z9 (S n) d))=nZ:=by simpa using he
    exact (wG (J n).1 kk.1 (ζ this)).symm
   have e2:=pF.2 e;refine ⟨X,V,rfl,?_,aa B A,?_⟩
   ·rw [e2];simp
   ·rw [e2];exact up h (aa (aa U B) A)
end
theorem uf (S:Int->Tr) (s:Sy):∀(r:List Sy) (d:Tr),fj S d (r++[s])=if s.t=nZ then fj S d r else ap2 bV (fj S d r) (S s.i)
 |[],d=>rfl
 |x::r,d=>by rw [zH];unfold fj;exact uf S s r _
theorem qhh {a:Tr} (g:a.ok):ap2 bV (qa6 nS) a=qa6 nS:=eq_of_ev (cC (a:=qa6 nS) trivial g).1 trivial λc=>by rw [(cC (a:=qa6 nS) trivial g).2];rfl
theorem bq {α:Type} {r:List α} {i:Nat} {x:α} (h:r[i]? =mB x):r.take (i+1)=r.take i++[x]:=by rw [Wj,h];rfl
section
variable {G G0 F:PH} {As:List (Ψ)} {m:Nat} {k:Nat}
theorem ug {S:Int->Tr} (h:St G F (mS bg G0 m S::As)) (l0:G0.le G) (hk:k<=6) (X:Sxs k S) {d:Tr} {w:Γ} (hx:Sx k d) (hd:DV G w (ph d)) {sl:Sl} {r:List Sy} (hr:RL G sl r) (hl:r.length<=1000000):
  ν 111 #[oc w,sl.v,.map (mB m)] F λres B=>∃g u,res=oc u/\DV g u (ph (fj S d r))/\G.le g/\St g B (mS bg G0 m S::As):=by
 have a0:=hr.len;refine UD ?_;unfold Ob;refine h.new λO F1 h=>h.new λJ F2 h=> ?_;refine bC (vR · (mB m) O J sl _) r.length (λi B=>∃(g:PH) (u:Γ),G.le g/\DV g u (ph (fj S d (r.take i)))/\St g B (pt J (mX zD 33)::pt O (mX u 33)::mS bg G0 m S::As)) ⟨G,w,au _,by rw [Va];exact hd,h⟩ ?_;rintro i F3 N hi ⟨G1,u,Q,C,h⟩ next;unfold vR;obtain ⟨fx,_⟩:=cJ X (r.take i) hx;refine ⟨λH=> ?_,λa1=> ?_⟩
 ·have H:i<r.length:=by omega
  refine u9 ((hr.le Q).le h.le) (by decide) (by omega) (by omega) λa c s hs I L=>⟨c,Mem.len L,I,?_⟩;rw [N4] at hs;obtain rfl:c=s.arr:=L;have Y:=bq hs;have A:=uf S s (r.take i) d;refine h.var (by simp [ak]) (λb8 G2 F4 D q8 h=>⟨_,ld (h.le _ _ q8) rfl,?_⟩) rfl rfl;have fin:∀{g B:PH} {M:Γ},G1.le g->DV g M (ph (fj S d (r.take (i+1))))->St g B (pt J (mX zD 33)::pt O (mX M 33)::mS bg G0 m S::As)->
    px N (mB m) O J sl (i:Int) (λres B=>∃g u,res=oc u/\DV g u (ph (fj S d r))/\G.le g/\St g B (mS bg G0 m S::As)) B:=λ{g B M} l W h=>by
   unfold px;rw [aD H];exact next _ H ⟨g,M,aa Q l,W,h⟩
  refine ⟨λE=> ?_,λE=> ?_⟩
  ·have E:s.t=nS:=by simpa using E
   rw [E,Υ YW] at A;obtain ⟨su,rfl,_⟩:=id C;refine ⟨_,h.ld1 rfl,?_⟩;unfold py;refine ⟨λa2=>⟨_,rfl,ai (h.ptAt (i:=1) rfl),_,ld (h.le _ _ q8) rfl,?_⟩,λhe=> ?_⟩
   ·refine (lQ h.front2 (aa l0 (aa Q D)) s.i).mono ?_;rintro _ F5 ⟨G3,x,rfl,U,l3,h⟩;have h:=h.back2;have V:=C.le (aa D l3);refine ⟨x,rfl,ai (h.ptAt (i:=1) rfl),?_⟩;refine h.run (P:=λr' g=>∃y,r'=sj #[oc y,vi 0]/\DV g y (ph (ap2 bV (fj S d (r.take i)) (S s.i)))) ((pE hk fx (X s.i) V U).mono λr B ⟨x,a,b,c⟩=>⟨⟨x,a,b⟩,c⟩) λ_ G4 F6 Z l4 h=> ?_;obtain ⟨y,rfl,K⟩:=Z;refine ⟨_,_,rfl,?_⟩;refine h.runv (ci K) λG5 F7 l5 h=>⟨_,rfl,?_⟩;refine h.put1 (w':=y) K.size rfl K.st λF8 h=> ?_;refine fin (aa D (aa l3 (aa l4 l5))) ?_ h;rw [Y,A];exact K.le l5
   ·have e:fj S d (r.take i)=qa6 nS:=(iZ fx.1).1 (by simpa using he);refine fin D ?_ h;rw [Y,A,e,qhh (X _).1,<- e];exact C.le D
  ·have E:s.t=nZ:=by simpa using E
   rw [E,Χ rfl] at A;unfold py;refine ⟨λL=>(by cases L),λ_=>fin D ?_ h⟩;rw [Y,A];exact C.le D
 ·have e:i=r.length:=by omega
  subst e;rw [wV] at C;unfold C5;refine ⟨u,C.size,ai (h.ptAt (i:=1) rfl),?_⟩;refine h.put0 (w':=u) C.size rfl C.st λF5 h=>⟨u,C.size,ai (h.ptAt (i:=0) rfl),?_⟩;exact ⟨G1,u,rfl,C,Q,h.tail.tail⟩
end
set_option maxRecDepth 100000
theorem L4 (p:Addr) (w:World):CallsD prog 107 #[pj (mB p)] .returning w λe r w'=>(∃v,e=.returned v)/\r=.returning/\w'=w:=by refine callsD_of_wpS func107 rfl λg A h=> ?_;apply wpS_seq;apply wpS_region;simp [wpOpsS,go_sem,recoverD,h,ntmps107,Exit.thenS];apply wpS_seq;apply wpS_region;simp [wpOpsS,go_sem,Exit.thenS];refine wpS_cond (t:=nS) (by simp [Act.eval,Array.replicate]) ?_;simp only [VQ,if_false];refine wpS_of_wp (wp_skip ?_);cases g;simp_all [bodyPostS,results,results107]
theorem L5 (p:Addr):BJ prog ⟨.fn (.func 107) #[pj (mB p)],#[]++[].toArray⟩:=
 ⟨_,_,107,#[pj (mB p)],rfl,λw=>⟨by simp [go_sem],L4 p w⟩⟩
structure OkK (g:Gr) (k:Nat):Prop where
 ok:OkG g
 len:g.qa4.length=k
 le:k<=6
theorem A9 {d:wc} {n:Nat} (h:iL d n):Sx n (vf d)/\d=ph (vf d):=by obtain ⟨t,A,g,w,_,r⟩:=uV h;rw [w];exact ⟨⟨A,r⟩,g⟩
theorem rg {n:Nat}:∀(l:List Tk) (g:List ο),fX n g l->∀t∈l,∃d,KI n d t
 |[],_,_,_,h=>by cases h
 |t::l,g,⟨h1,h2⟩,x,r=>by
  rcases tQ.1 r with rfl|r
  ·exact ⟨_,h1⟩
  ·exact rg l _ h2 x r
theorem fK {g:Gr}:∀(l:List Pr) (r:List ο),dr g r l=0->∀p∈l,iM g p/\∃d,KH g d p
 |[],_,_,_,h=>by cases h
 |p::l,r,h,x,A=>by
  unfold dr at h;by_cases B:iM g p
  ·rw [Υ (μ B)] at h;by_cases w:KH g r p
   ·rw [Υ (μ w)] at h;rcases tQ.1 A with rfl|A
    ·exact ⟨B,_,w⟩
    ·exact fK l _ h x A
   ·rw [Χ w] at h;cases h
  ·rw [Χ B] at h;cases h
section
variable {g:Gr} {k:Nat}
theorem OkK.fam (h:OkK g k):Sx k (vf g.fam)/\g.fam=ph (vf g.fam):=by have:=A9 h.ok.fam.2.2.1;rwa [h.len] at this
theorem OkK.fam0 (h:OkK g k):vf g.fam≠qa6 nS:=λe=>by have r:=h.ok.fam.2.2.2;rw [h.fam.2,e] at r;exact r rfl
theorem OkK.tok (h:OkK g k) {t:Tk} (w:t∈g.qa2):Sx k (vf t.cond)/\t.cond=ph (vf t.cond):=by obtain ⟨d,_,_,_,_,r,_⟩:=rg _ _ h.ok.qa2 t w;have:=A9 r;rwa [h.len] at this
theorem OkK.prod (h:OkK g k) {x:Pr} (r:x∈g.qa0):Sx k (vf x.cond)/\x.cond=ph (vf x.cond)/\iM g x:=by obtain ⟨A,d,_,_,w,_⟩:=fK _ _ h.ok.qa0 x r;have:=A9 w;rw [h.len] at this;exact ⟨this.1,this.2,A⟩
def eH (g:Gr) (i:Int):Tr:=match g.qa2[i.toNat]? with
 |some t=>vf t.cond
 |none=>qa6 nS
theorem OkK.tkd (h:OkK g k) (i:Int):Sx k (eH g i):=by
 unfold eH;split
 ·rename_i t r;exact (h.tok (wh r)).1
 ·exact Sx.qa6 k nS
def kP (g:Gr):Tr->List Sy->Tr
 |d,[]=>d
 |d,s::r=>kP g (if s.t=nZ then ap2 bV d (eH g s.i) else d) r
theorem uh (s:Sy):∀(r:List Sy) (d:Tr),kP g d (r++[s])=if s.t=nZ then ap2 bV (kP g d r) (eH g s.i) else kP g d r
 |[],d=>rfl
 |x::r,d=>by rw [zH];unfold kP;exact uh s r _
theorem fL (h:OkK g k):∀(r:List Sy) {d:Tr},Sx k d->Sx k (kP g d r)/\∀c,(kP g d r).ev c=(d.ev c && r.all λs=> !s.t || (eH g s.i).ev c)
 |[],d,hd=>⟨hd,λc=>by simp [kP]⟩
 |s::r,d,hd=>by
  unfold kP;by_cases w:s.t=nZ
  ·rw [Χ w];obtain ⟨B,A⟩:=fL h r (hd.ap2 (o:=bV) (h.tkd s.i));refine ⟨B,λc=> ?_⟩;rw [A,Xj,(cC hd.1 (h.tkd s.i).1).2,w,Bool.and_assoc];rfl
  ·rw [Υ w];obtain ⟨B,A⟩:=fL h r hd;exact ⟨B,λc=>by rw [A,Xj,Yv.2 w];simp⟩
def bI (g:Gr) (i:Nat):Tr:=match g.qa0[i]? with
 |some x=>kP g (ap2 bV (vf g.fam) (vf x.cond)) x.right
 |none=>qa6 nS
theorem OkK.prs (h:OkK g k) (i:Nat):Sx k (bI g i):=by
 unfold bI;split
 ·rename_i x r;exact (fL h _ (h.fam.1.ap2 (o:=bV) (h.prod (wh r)).1)).1
 ·exact Sx.qa6 k nS
theorem OkK.prs_ev (h:OkK g k) {i:Nat} {x:Pr} (r:g.qa0[i]? =mB x) (c:Cf):(bI g i).ev c=((vf g.fam).ev c && (vf x.cond).ev c && x.right.all λs=> !s.t || (eH g s.i).ev c):=by unfold bI;rw [r];have w:=(h.prod (wh r)).1;dsimp only;rw [(fL h _ (h.fam.1.ap2 (o:=bV) w)).2,(cC h.fam.1.1 w.1).2]
end
instance:Mem wc where
 n:=2
 rep F d c:=DV F c d
 len h:=h.size
 le hl h:=h.le hl
 st h:=h.st
theorem qgF:∃b z,SlT 205 33 2 b z:=⟨_,_,underlying205,qgn,SN,rfl,by decide,by decide⟩
abbrev Y5 (g:Gr) (c n t s p l f q:Sl):Γ:= #[c.v,n.v,vi g.fam.2,t.v,s.v,p.v,vi g.start,l.v,f.v,q.v]
def tM (g:Gr) (n:Nat):List wc:=(List.range n).map λi=>ph (bI g i)
theorem FA (g:Gr) (n:Nat):tM g (n+1)=tM g n++[ph (bI g n)]:=by unfold tM;rw [List.range_succ,yO];rfl
theorem ri (g:Gr) (n:Nat):(tM g n).length=n:=by unfold tM;rw [vb,Wq]
structure AnV (F:PH) (b:Nat) (g:Gr):Prop where
 ex:∃c n t s p l f q,F b=mB (mX (Y5 g c n t s p l f q) 207)/\GS F g c n t s p l f/\RL F q (tM g g.qa0.length)
theorem AnV.le {F G:PH} {b:Nat} {g:Gr} (h:AnV F b g) (l:F.le G):AnV G b g:=by obtain ⟨c,n,t,s,p,lv,f,q,w,r,A⟩:=h;exact ⟨c,n,t,s,p,lv,f,q,l _ _ w,r.le l,A.le l⟩
theorem Ih (x:Addr) (i j:Nat):od (od x i) j=od x (i+j):=by obtain ⟨a,o,p⟩:=x;by_cases hi:i=0<;>by_cases g:j=0<;>simp [od,hi,g,V7]
section
variable {G F:PH} {As:List (Ψ)} {g:Gr} {k:Nat}
theorem UK (hk:OkK g k) {N1:Ω} {rv:ξ} {b2 b4 H O i:Nat} {p r:Sl} {R:VR} {c n t s p' l f:Sl} {x:Pr} (hx:g.qa0[i]? =mB x) (q2:G b2=mB (mX (g.arr c n t s p' l f) 39)) (ht:RL G t g.qa2) (hr:RL G r x.right) (hl:x.right.length<=1000000)
  {w:Γ} {d:Tr} (hd:Sx k d) (hw:DV G w (ph d)) (h:St G F (pt O (mX w 33)::As))
  (fin:∀B E w',G.le B->DV B w' (ph (kP g d x.right))->St B E (pt O (mX w' 33)::As)->A3 N1 rv b2 b4 H O p (i:Int) R E):
  ∃(I2:Nat->Ω) (m2:Nat),I2 m2 (0:Int) F/\∀m2 L F,I2 m2 L F->vL N1 (λY F=>∃m',m'<m2/\I2 m' Y F) rv b2 b4 H O p (i:Int) r R L F:=by
 have a9:=hr.len;have a8:=(hk.prod (wh hx)).2.2.2;refine bC (vL N1 · rv b2 b4 H O p (i:Int) r R) x.right.length (λj E=>∃(B:PH) (u:Γ),G.le B/\DV B u (ph (kP g d (x.right.take j)))/\St B E (pt O (mX u 33)::As)) ⟨G,w,au _,by rw [Va];exact hw,h⟩ ?_;rintro j F3 N hj ⟨G1,u,W,X,h⟩ next;obtain ⟨fx,_⟩:=fL hk (x.right.take j) hd;unfold vL;refine ⟨λV=> ?_,λb1=> ?_⟩
 ·have V:j<x.right.length:=by omega
  refine u9 ((hr.le W).le h.le) (by decide) (by omega) (by omega) λa cc C hs a0 hc=>⟨cc,Mem.len hc,a0,?_⟩;rw [N4] at hs;obtain rfl:cc=C.arr:=hc;have et:=bq hs;have D:=uh (g:=g) C (x.right.take j) d;obtain ⟨s0,_,s2⟩:=a8 C (wh hs);refine h.var (by simp [ak]) (λb6 G2 F4 K I h=>⟨_,ld (h.le _ _ I) rfl,?_⟩) rfl rfl;have M:∀{B E:PH} {u':Γ},G1.le B->DV B u' (ph (kP g d (x.right.take (j+1))))->St B E (pt O (mX u' 33)::As)->
    vK N1 N rv b2 b4 H O p (i:Int) r (j:Int) R E:=λ{B E u'} l a5 h=>by
   unfold vK;rw [aD V];exact next _ V ⟨B,u',aa W l,a5,h⟩
  refine ⟨λA=> ?_,λA=> ?_⟩
  ·have A:C.t=nZ:=A;rw [Χ A] at D;obtain ⟨tk,J,_⟩:=s2 A;have ed:eH g C.i=vf tk.cond:=by unfold eH;rw [J]
   obtain ⟨tx,td⟩:=hk.tok (wh J);have a1:=ht.le (aa W K);have b5:=a1.len;have b3:C.i.toNat<g.qa2.length:=(N6.1 J).1;refine ⟨u,X.size,ai (h.ptAt (i:=0) rfl),_,ld (h.le _ _ (K _ _ (W _ _ q2))) rfl,_,ld (h.le _ _ I) rfl,?_⟩;refine h.ix a1 (by decide) s0 (by omega) λa2 c2 y Q U a3=> ?_;rw [J] at Q;obtain rfl:=yV Q;obtain ⟨pp,nn,rfl,_,a4⟩:=a3;have a6:DV G2 #[nn.v,vi tk.cond.2] (ph (eH g C.i)):=by rw [ed,<- td];exact DV.mk a4
   refine ⟨#[nn.v,vi tk.cond.2],rfl,λq hq=> ?_,?_⟩
   ·have b0:q<2:=hq;have:=U (5+q) (by show 5+q<7;omega);rw [Ih];refine this.trans ?_;rcases (show q=0\/q=1 by omega) with rfl|rfl<;>rfl
   ·refine h.run (P:=λr' B=>∃y,r'=sj #[oc y,vi 0]/\DV B y (ph (ap2 bV (kP g d (x.right.take j)) (eH g C.i)))) ((pE hk.le fx (hk.tkd C.i) (X.le K) a6).mono λr E ⟨x,a,b,c⟩=>⟨⟨x,a,b⟩,c⟩) λ_ G4 F6 a7 Z h=> ?_;obtain ⟨y,rfl,Q⟩:=a7;refine ⟨_,_,rfl,ld (h.le _ _ (Z _ _ I)) rfl,ld (h.le _ _ (Z _ _ (K _ _ (W _ _ q2)))) rfl,?_⟩;refine h.runv (ci Q) λG5 F7 l5 h=>⟨_,rfl,?_⟩;refine ⟨ld (h.le _ _ (l5 _ _ (Z _ _ I))) rfl,ld (h.le _ _ (l5 _ _ (Z _ _ (K _ _ (W _ _ q2))))) rfl,?_⟩;refine h.put0 (w':=y) Q.size X.size Q.st λF8 h=> ?_;refine M (aa K (aa Z l5)) ?_ h;rw [et,D];exact Q.le l5
  ·have A:C.t≠nZ:=λe=>by rw [show C.t=nZ from e] at A;cases A
   rw [Υ A] at D;refine M K ?_ h;rw [et,D];exact X.le K
 ·have e:j=x.right.length:=by omega
  subst e;rw [wV] at X;exact fin G1 _ u W X h
end
section
variable {G F:PH} {As:List (Ψ)} {Bs:PH->List (Ψ)} {g:Gr} {k:Nat}
theorem St.rot {A:Ψ} (h:St G F (A::As)):St G F (As++[A]):=by
 refine h.pick (λi=>if i=As.length then 0 else i+1) (λi j _ _ e=> ?_) (λi hi=> ?_)
 ·split at e<;>split at e<;>omega
 ·rw [tT,Vc] at hi;split
  ·rename_i e;rw [e,Vm (tI _),Yi];rfl
  ·rw [z8 (by omega)];rfl
theorem St.unrot {A:Ψ} (h:St G F (As++[A])):St G F (A::As):=by
 refine h.pick (λi=>if i=0 then As.length else i - 1) (λi j hi r e=> ?_) (λi hi=> ?_)
 ·rw [wo] at hi r;split at e<;>split at e<;>omega
 ·rw [wo] at hi;split
  ·rename_i e;rw [e,Vm (tI _),Yi];rfl
  ·rename_i e;obtain ⟨j,rfl⟩:∃j,i=j+1:=⟨i - 1,by omega⟩;rw [Nat.add_sub_cancel,z8 (by omega)];rfl
theorem qh9 {v:Γ} (hT:Tab G) (Y:GV G v g) (hz:Sz g) (K:OkK g k) (hl:∀x∈g.qa0,x.right.length<=1000000) (hp:g.qa0.length<=1000000) (h:St G F As) {kr:Nat} {fst cap:Γ} (cb:aG prog kr=nZ)
  (run:∀w b J,G.le w->AnV w b g->St w J As->aj prog kr (fst++ #[pj (mB ⟨b,0,nC⟩)]++cap) J λr a6=>∃M,r=sj #[]/\w.le M/\St M a6 (Bs M)):
  ν 78 #[oc v,.func (.func kr) fst cap] F λr J=>r=vi 0/\∃w,G.le w/\St w J (Bs w):=by
 obtain ⟨_,_,T⟩:=qgF;have hc:=qC.2 K.ok;refine qgC ?_;unfold Uy;refine h.newG λb2 G1 F1 l1 q2 _ h=>h.new λb4 F2 h=>⟨v,Y.size,ai (h.le _ _ q2),?_⟩;refine h.run (oW (hT.le l1) (Y.le l1) hz) λ_ G3 F3 hr l3 h=> ?_;rw [hr,hc];refine ⟨_,rfl,λhn=>absurd rfl hn,λ_=>⟨L5 _,v,Y.size,ai (h.le _ _ (l3 _ _ q2)),Y.size,?_⟩⟩;have I:=aa l1 l3;obtain ⟨c,n,t,s,p,lv,f,rfl,hs⟩:=Y.le I;have q2:=l3 _ _ q2;refine h.new λC F4 h=> ?_;rw [show wr (#[tU nC 0 0,.slice nC 0 0,vi 0,.slice nC 0 0,.slice nC 0 0,.slice nC 0 0,vi 0,.slice nC 0 0,.slice nC 0 0,.slice nC 0 0]:Γ) 0 (g.arr c n t s p lv f).toList=Y5 g c n t s p lv f pk by kernel_rfl] at h;refine ⟨_,ld (h.le _ _ q2) rfl,?_⟩;have h:=h.nilOwn 33 2;have ep:=hs.p.len
 refine bC (A4 · (.func (.func kr) fst cap) b2 b4 C p _) g.qa0.length (λi J=>∃(w:PH) (V:Sl) (vs:List Γ),G3.le w/\bT w (tM g i) vs/\
  St w J (own V 33 2 (uX vs)::pt C (mX (Y5 g c n t s p lv f V) 207)::pt b4 (mX #[vi 0] 49)::As)) ⟨G3,pk,[],au _,.nil,h⟩ ?_
 rintro i F5 N hi ⟨G4,V,vs,l4,hv,h⟩ next;have U:=hs.le l4;unfold A4;refine ⟨λL=> ?_,λb3=> ?_⟩
 ·have L:i<g.qa0.length:=by omega
  refine h.ix U.p (by decide) (by omega) (by omega) λa c8 x hx W E=>⟨c8,Mem.len E,W,?_⟩;rw [N4] at hx;have O:=wh hx;obtain ⟨Q,a3,_⟩:=K.prod O;refine h.var (Mem.st E) (λb8 G5 F6 D q8 h=> ?_) rfl (Mem.len E);obtain ⟨r8,n8,l8,rfl,a4,b0,_⟩:=E;have a1:=U.le D;have Z:=D _ _ (l4 _ _ q2);have d1:DV G5 #[n.v,vi g.fam.2] (ph (vf g.fam)):=by rw [<- K.fam.2];exact DV.mk a1.n
  have d2:DV G5 #[n8.v,vi x.cond.2] (ph (vf x.cond)):=by rw [<- a3];exact DV.mk (b0.le D)
  refine ⟨#[n.v,vi g.fam.2],rfl,fZ (h.le _ _ Z) rfl,#[n8.v,vi x.cond.2],rfl,fZ (h.le _ _ q8) rfl,?_⟩;refine h.run (P:=λr' w=>∃y,r'=sj #[oc y,vi 0]/\DV w y (ph (ap2 bV (vf g.fam) (vf x.cond)))) ((pE K.le K.fam.1 Q d1 d2).mono λr J ⟨x,a,b,c⟩=>⟨⟨x,a,b⟩,c⟩) λ_ G6 F7 a9 X h=> ?_;obtain ⟨y,rfl,hy⟩:=a9;refine ⟨_,_,rfl,?_⟩;refine h.runv (ci hy) λG7 F8 l7 h=>⟨_,rfl,?_⟩;have A:=aa X l7;refine h.new λb9 F9 h=> ?_;refine h.put0 (w':=y) hy.size rfl hy.st λb7 h=>⟨_,ld (h.le _ _ (A _ _ q8)) rfl,?_⟩;refine UK K hx (A _ _ Z) (a1.le A).t (a4.le (aa D A)) (hl x O) (K.fam.1.ap2 (o:=bV) Q) (hy.le l7) h λG8 b1 w' a8 hw h=> ?_;unfold A3;refine ⟨_,h.ld2 rfl,w',hw.size,ai (h.ptAt (i:=0) rfl),hw.size,?_⟩;have a0:=aa A a8;have a2:=hv.le (aa D a0);have b6:V.len=i:=by have:=RL.len ⟨vs,a2.le h.le,bO.rd (h.ownAt (i:=1) rfl).1⟩ (by decide);rw [ri] at this;exact this
  refine h.push1 T hw.size hw.st (by omega) λs' G9 b5 l9 h c3=> ?_;refine h.set2 (w':=Y5 g c n t s p lv f s') (vp rfl) rfl λc2 h=> ?_;unfold HZ;rw [aD L];refine next _ L ⟨G9,s',vs++[w'],aa l4 (aa D (aa a0 l9)),?_,?_⟩
  ·rw [FA];have e:bI g i=kP g (ap2 bV (vf g.fam) (vf x.cond)) x.right:=by unfold bI;rw [hx]
   rw [e];exact (a2.append (.cons hw .nil)).le l9
  ·rw [be,cG];exact h.tail
 ·have e:i=g.qa0.length:=by omega
  subst e;unfold HY;obtain ⟨G5,D,hd,h⟩:=h.pinO;obtain ⟨G6,X,⟨H,hA,hH⟩,h⟩:=h.pin;have a7:=hH _ _ hA;have B:=aa l4 (aa D X);have a5:AnV G6 C g:=⟨c,n,t,s,p,lv,f,V,a7,hs.le B,⟨vs,hv.le (aa D X),hd.le X⟩⟩;refine ⟨kr,fst,cap,rfl,cb,?_⟩;refine (h.rot.callL (Bs':=λ_ w=>Bs w) (P:=λr _=>r=sj #[]) λF1 h1=>run G6 C F1 (aa I B) a5 h1).mono ?_;rintro r F7 ⟨G7,rfl,l7,h⟩;refine ⟨rfl,?_⟩;have h:=h.unrot;refine h.set0 (w':= #[vi 0]) (vp rfl) rfl λF8 h=>⟨_,h.ld0 rfl,rfl,G7,aa I (aa B l7),h.tail⟩
end
theorem Ro:aG prog 187=nZ:=by kernel_rfl
section
variable {G G0 F:PH} {m k:Nat} {σ:Type}
structure UL (G:PH) (k m:Nat) (kr:Nat) (fst cap:Γ) (keys:Φ) (Inv:(Int->Tr)->Prop) (rnd:(Int->Tr)->Int->Tr) (aux:(Int->Tr)->σ) (As:PH->σ->List (Ψ)):Prop where
 cb:aG prog kr=nZ
 sx:∀S,Sxs k S->Inv S->Sxs k (rnd S)/\Inv (rnd S)/\Lt' S (rnd S)/\∀n,rnd S n≠S n->n∈keys
 run:∀G' F' S x b2 b4,G.le G'->Sxs k S->Inv S->G'.cell ⟨b2,0,nC⟩=mB (.map (mB m))->St G' F' (mS bg G' m S::pt b4 (mX #[oY nS] 4)::As G' x)->
  aj prog kr (fst++ #[.func (.func 187) #[] #[pj (mB ⟨b2,0,nC⟩),pj (mB ⟨b4,0,nC⟩)]]++cap) F' λr F''=>∃G'' ch,r=sj #[]/\G'.le G''/\(ch=nZ↔rnd S≠S)/\
   St G'' F'' (mS bg G'' m (rnd S)::pt b4 (mX #[oY ch] 4)::As G'' (aux S))
theorem FB {kr:Nat} {fst cap:Γ} {keys:Φ} {Inv:(Int->Tr)->Prop} {g:(Int->Tr)->Int->Tr} {D:(Int->Tr)->σ} {As:PH->σ->List (Ψ)} (U:UL G k m kr fst cap keys Inv g D As)
  (up:∀w A J x S,w.le A->St A J (mS bg w m S::As w x)->St A J (mS bg A m S::As A x)) {S:Int->Tr} {x:σ} (hS:Sxs k S) (hI:Inv S) (h:St G F (mS bg G m S::As G x)):
  ν 150 #[.map (mB m),.func (.func kr) fst cap] F λr J=>∃w S',r=sj #[]/\G.le w/\Sxs k S'/\Inv S'/\g S'=S'/\St w J (mS bg w m S'::As w (D S')):=by
 refine UH ?_;unfold Of;refine h.newG λb2 Q F1 V q2 _ h=> ?_;have h:=up G Q F1 x S V h;refine h.new λb4 F2 h=> ?_;refine h.set0 (w':= #[oY nZ]) (vp rfl) rfl λF3 h=> ?_
 refine ⟨λq p J=>∃(b:Nat) (w:PH) (S':Int->Tr) (y:σ) (K:Bool),p=mB (pd b 0 nC)/\q=mu k keys S'+(if K=nZ then 1 else 0)/\Q.le w/\Sxs k S'/\Inv S'/\(K=nS->g S'=S'/\y=D S')/\
  St w J (pt b (mX #[oY K] 4)::mS bg w m S'::As w y),mu k keys S+1,⟨b4,Q,S,x,nZ,rfl,rfl,au _,hS,hI,λL=>(by cases L),h⟩,?_⟩
 rintro q p F4 ⟨b,X,C,y,K,rfl,rfl,N,E,H,P,h⟩;unfold C6;refine ⟨_,rfl,K,h.ld0 rfl,λht=> ?_,λO=> ?_⟩
 ·subst ht;refine h.set0 (w':= #[oY nS]) (vp rfl) rfl λF5 h=>⟨kr,fst,cap,rfl,U.cb,?_⟩;obtain ⟨W,s2,s3,s4⟩:=U.sx C E H;refine (U.run X F5 C y b2 b (aa V N) E H (ld (N _ _ q2) rfl) h.swap).mono ?_;rintro _ F6 ⟨G3,B,rfl,l3,M,h⟩;refine ⟨rfl,B,h.ld1 rfl,?_⟩;have h:=h.swap;refine h.new λb5 F7 h=> ?_;refine h.set0 (w':= #[oY B]) (vp rfl) rfl λF8 h=> ?_;refine ⟨mu k keys (g C)+(if B=nZ then 1 else 0),?_,b5,G3,g C,D C,B,rfl,rfl,aa N l3,W,s2,λO=> ?_,h.swap.tail.swap.swap⟩
  ·obtain ⟨m1,m2⟩:=HV E W s3 keys;rw [Χ rfl];by_cases L:B=nZ
   ·rw [Χ L];have I:=M.1 L;obtain ⟨n,Y⟩:∃n,g C n≠C n:=Classical.not_forall.1 λZ=>I (funext Z);have:=m2 n (s4 n Y) (Ne.symm Y);omega
   ·rw [Υ L];omega
  ·have e:g C=C:=Classical.not_not.1 λI=>by rw [M.2 I] at O;cases O
   exact ⟨by rw [e,e],by rw [e]⟩
 ·subst O;obtain ⟨e1,e2⟩:=P rfl;exact ⟨X,C,rfl,aa V N,E,H,e1,by rw [<- e2];exact h.tail⟩
end
abbrev FC (b2 b4:Nat):Value:=.func (.func 187) #[] #[pj (mB ⟨b2,0,nC⟩),pj (mB ⟨b4,0,nC⟩)]
theorem L6 {g:Type} {k:Nat} {S T U:g->Tr} (D:Sxs k S) (r:Sxs k T) (A:Sxs k U) (B:Lt' S T) (w:Lt' T U):(T≠S\/U≠T)↔U≠S:=by
 constructor
 ·rintro h rfl;have e:T=U:=Lt'.antisymm r A w B;rcases h with h|h
  ·exact h e
  ·exact h e.symm
 ·intro h;by_cases e:T=S
  ·exact .inr λC=>h (C.trans e)
  ·exact .inl e
theorem ui {st:Bool} {x:Pr}:gb st x=nZ↔st=nZ/\∃s∈x.right,s.t=nZ:=by unfold gb;rw [W2,XI]
section
variable {G F:PH} {As:List (Ψ)} {g:Gr} {k m:Nat} {st:Bool}
structure DrE (G:PH) (g:Gr) (st:Bool) (m ban b1 b3 b5 b2:Nat):Prop where
 q1:G b1=mB (mX #[pj (mB ⟨ban,0,nC⟩)] 169)
 q3:G b3=mB (mX #[oY st] 4)
 q5:G b5=mB (mX #[.map (mB m)] 170)
 q2:G.cell ⟨b2,0,nC⟩=mB (.map (mB m))
 an:AnV G ban g
theorem DrE.le {G D:PH} {r A B C w:Nat} (h:DrE G g st m r A B C w) (l:G.le D):DrE D g st m r A B C w:=⟨l _ _ h.q1,l _ _ h.q3,l _ _ h.q5,aK l h.q2,h.an.le l⟩
theorem L7 {d4 b1 b3 b5 b2 U:Nat} (hk:OkK g k) (hl:∀x∈g.qa0,x.right.length<=1000000) (hp:g.qa0.length<=1000000) (E:DrE G g st m d4 b1 b3 b5 b2) {S:Int->Tr} (hS:Sxs k S)
  (h:St G F (mS bg G m S::pt U (mX #[oY nS] 4)::As)):
  ν 151 #[FC b2 U,.pointer (mB ⟨b1,0,nC⟩),pj (mB ⟨b3,0,nC⟩),pj (mB ⟨b5,0,nC⟩)] F λr a7=>∃A D,r=sj #[]/\G.le A/\(D=nZ↔iT st (bI g) 0 g.qa0 S≠S)/\
   St A a7 (mS bg A m (iT st (bI g) 0 g.qa0 S)::pt U (mX #[oY D] 4)::As):=by
 obtain ⟨c,n,t,s,p,lv,f,q,qa,hs,hq⟩:=E.an.ex;have ep:=hs.p.len;have eq:=hq.len;rw [ri] at eq;refine UI ?_;unfold Og;refine ⟨_,rfl,_,ld (h.le _ _ E.q1) rfl,_,rfl,_,by rw [aJ];exact ld (h.le _ _ qa) rfl,?_⟩
 refine bC (vU · (FC b2 U) (pd b1 0 nC) _ _ p _) g.qa0.length (λi O=>∃(C:PH) (S':Int->Tr) (D:Bool),G.le C/\Sxs k S'/\Lt' S S'/\iT st (bI g) 0 g.qa0 S=iT st (bI g) i (g.qa0.drop i) S'/\(D=nZ↔S'≠S)/\
  St C O (mS bg C m S'::pt U (mX #[oY D] 4)::As)) ⟨G,S,nS,au _,hS,Lt'.refl S,by rw [Vz],by simp,h⟩ ?_
 rintro i F1 N hi ⟨G1,S1,D,l1,M,c7,J,d3,h⟩ next;have E1:=E.le l1;have up:∀{G1 Z O:PH} {S':Int->Tr} {b9:List (Ψ)},St Z O (mS bg G1 m S'::b9)->G1.le Z->St Z O (mS bg Z m S'::b9):=λ{G1 Z O S' b9} h l=>h.imp 0 rfl λH _ ⟨o,mp,a1,a2,a3⟩=>⟨o,mp,a1,a2,a3.le l⟩;unfold vU;refine ⟨λY=> ?_,λe3=> ?_⟩
 ·have Y:i<g.qa0.length:=by omega
  have e0:=hs.le l1;refine h.ix e0.p (by decide) (by omega) (by omega) λa c6 x hx d0 V=>⟨c6,Mem.len V,d0,?_⟩;rw [N4] at hx;have a4:=wh hx;have a5:g.qa0.drop i=x::g.qa0.drop (i+1):=fG hx;obtain ⟨a1,a2⟩:=gc (st:=st) M (hk.prs i) x;refine h.var (Mem.st V) (λb6 Z F2 l2 q6 h=> ?_) rfl (Mem.len V);obtain ⟨r,n6,l6,rfl,hr,e2,_⟩:=V;have er:=(hr.le l2).len;refine ⟨_,ld (h.le _ _ q6) rfl,?_⟩;have a0:∀{C O:PH} {P:Bool} {S':Int->Tr},Z.le C->S'=(if gb st x=nZ then S1 else dV S1 x.left (fj S1 (bI g i) x.right))->(P=nZ↔D=nZ\/S'≠S1)->St C O (mS bg C m S'::pt U (mX #[oY P] 4)::As)->
    pC N (FC b2 U) (pd b1 0 nC) (mB (pd b3 0 nC)) (mB (pd b5 0 nC)) p (i:Int) (λr a7=>∃A D,r=sj #[]/\G.le A/\(D=nZ↔iT st (bI g) 0 g.qa0 S≠S)/\
   St A a7 (mS bg A m (iT st (bI g) 0 g.qa0 S)::pt U (mX #[oY D] 4)::As)) O:=λ{C O P S'} l e L h=>by
   unfold pC;rw [aD Y];subst e;refine next _ Y ⟨C,_,P,aa l1 (aa l2 l),a1,c7.trans a2,?_,?_,h⟩
   ·rw [J,a5];rfl
   ·rw [L,d3];exact L6 hS M a1 c7 a2
  refine bC (vT N · (FC b2 U) (pd b1 0 nC) (mB (pd b3 0 nC)) (mB (pd b5 0 nC)) (i:Int) b6 p r _) x.right.length (λj O=>∃C:PH,Z.le C/\(st=nZ->∀(j':Nat) (y:Sy),j'<j->x.right[j']? =mB y->y.t=nS)/\
   St C O (mS bg C m S1::pt U (mX #[oY D] 4)::As)) ⟨Z,au _,λ_ j' y hj=>by omega,up h l2⟩ ?_
  rintro j F3 N2 hj ⟨G3,X,d2,h⟩ K;unfold vT;have E3:=E1.le (aa l2 X);refine ⟨λQ=> ?_,λe4=> ?_⟩
  ·have Q:j<x.right.length:=by omega
   refine h.ix (hr.le (aa l2 X)) (by decide) (by omega) (by omega) λa8 c8 y hy c3 d1=>⟨c8,Mem.len d1,c3,?_⟩;rw [N4] at hy;obtain rfl:c8=y.arr:=d1;refine h.var (by simp [ak]) (λb8 G4 F4 l4 q8 h=>⟨_,ld (h.le _ _ q8) rfl,λw=> ?_,λw=> ?_⟩) rfl rfl
   ·have w:y.t=nZ:=w;refine ⟨_,rfl,_,ld (h.le _ _ (l4 _ _ E3.q3)) rfl,λI=> ?_,λI=> ?_⟩
    ·refine a0 (aa X l4) (S':=S1) ?_ (by simp) (up h l4);rw [Χ (ui.2 ⟨I,y,wh hy,w⟩)]
    ·unfold pD;rw [aD Q (by have:=hl x a4;omega)];exact K _ Q ⟨G4,aa X l4,λh=>(by rw [show st=nS from I] at h;cases h),up h l4⟩
   ·unfold pD;rw [aD Q (by have:=hl x a4;omega)];refine K _ Q ⟨G4,aa X l4,λI j' z a6 hz=> ?_,up h l4⟩;by_cases e:j'=j
    ·subst e;rw [hy] at hz;cases hz;exact w
    ·exact d2 I j' z (by omega) hz
  ·have hj:j=x.right.length:=by omega
   subst hj;have c4:¬gb st x=nZ:=λe1=>by obtain ⟨h1,y,hy,w⟩:=ui.1 e1;obtain ⟨j',a6⟩:=List.getElem?_of_mem hy;have:=d2 h1 j' y (N6.1 a6).1 a6;rw [w] at this;cases this
   unfold C7;have c5:=aa l1 (aa l2 X);have b0:=c5 _ _ qa;have b7:=X _ _ q6;refine ⟨_,ld (h.le _ _ b7) rfl,_,ld (h.le _ _ E3.q1) rfl,_,rfl,_,by rw [aJ];exact ld (h.le _ _ b0) rfl,?_⟩;refine h.ix (hq.le c5) (by decide) (by omega) (by omega) λa9 c9 dd B c2 W=>⟨c9,Mem.len W,c2,?_⟩;rw [N4] at B;have B:dd=ph (bI g i):=by unfold tM at B;rw [yr,XK Y] at B;exact (yV B).symm
   have W:DV G3 c9 (ph (bI g i)):=by rw [<- B];exact W
   refine ⟨_,ld (h.le _ _ b7) rfl,_,rfl,_,ld (h.le _ _ E3.q5) rfl,?_⟩;refine (ug h (au _) hk.le M (hk.prs i) W (hr.le (aa l2 X)) (hl x a4)).mono ?_;rintro _ F5 ⟨G5,u,rfl,hu,l5,h⟩;have E5:=E3.le l5;refine ⟨u,rfl,by rw [aJ];exact ld (h.le _ _ (l5 _ _ b0)) rfl,ld (h.le _ _ E5.q1) rfl,ld (h.le _ _ (l5 _ _ b7)) rfl,_,_,_,rfl,Ro,?_⟩;refine (Fz h l5 hk.le M (cJ M x.right (hk.prs i)).1 hu E5.q2 x.left).mono ?_;rintro _ F6 ⟨G6,P,rfl,L,l6,h⟩;refine ⟨rfl,by rw [aJ];exact ld (h.le _ _ (l6 _ _ (l5 _ _ b0))) rfl,ld (h.le _ _ (l6 _ _ E5.q1)) rfl,?_⟩;exact a0 (aa X (aa l5 l6)) (by rw [Υ c4]) L h
 ·have e:i=g.qa0.length:=by omega
  subst e;rw [XY] at J;have J:iT st (bI g) 0 g.qa0 S=S1:=J;rw [J];exact ⟨G1,D,rfl,l1,d3,h⟩
end
theorem Rp:aG prog 151=nZ:=by kernel_rfl
section
variable {G F:PH} {As:List (Ψ)} {g:Gr} {k m:Nat} {st:Bool}
theorem St.toMap {r:Type} [DecidableEq r] (enc:r->ξ) (h:St G F (pt m (.map #[] 0)::As)):St G F (mS enc G m (λ_=>qa6 nS)::As):=
 h.imp (A':=mS enc G m (λ_=>qa6 nS)) 0 rfl λH _ w=>⟨_,_,w,dW.empty enc,iY.empty G⟩
theorem L8 {w A C B:Nat} (H:OkK g k) (V:∀x∈g.qa0,x.right.length<=1000000) (U:g.qa0.length<=1000000) (q1:G A=mB (mX #[pj (mB ⟨w,0,nC⟩)] 169)) (q3:G C=mB (mX #[oY st] 4))
  (q5:G B=mB (mX #[.map (mB m)] 170)) (D:AnV G w g):
  UL G k m 151 #[] #[pj (mB ⟨A,0,nC⟩),pj (mB ⟨C,0,nC⟩),pj (mB ⟨B,0,nC⟩)] (g.qa0.map (·.left)) (Zr g.qa0 (bI g) st) (iT st (bI g) 0 g.qa0) (λ_=>()) (λ_ _=>As) where
 cb:=Rp
 sx S hS hI:=by obtain ⟨J,K,Y⟩:=kN (st:=st) H.prs g.qa0 0 hS;refine ⟨J,yo H.prs g.qa0 0 (λj x M=>by rw [yp];exact M) hS hI,K,λn X=> ?_⟩;obtain ⟨x,I,e⟩:=Y n X;exact xR.2 ⟨x,I,e⟩
 run G' F' S x b2 b4 l hS hI hc h:=by
  have e:(#[]++ #[FC b2 b4]++ #[pj (mB ⟨A,0,nC⟩),pj (mB ⟨C,0,nC⟩),pj (mB ⟨B,0,nC⟩)]:Γ)= #[FC b2 b4,.pointer (mB ⟨A,0,nC⟩),pj (mB ⟨C,0,nC⟩),pj (mB ⟨B,0,nC⟩)]:=by simp
  rw [e];refine (L7 H V U ⟨l _ _ q1,l _ _ q3,l _ _ q5,hc,D.le l⟩ hS h).mono ?_;rintro r W ⟨E,Q,P,O,L,N⟩;exact ⟨E,Q,P,O,L,N⟩
theorem qha {C:Nat} (L:OkK g k) (hl:∀x∈g.qa0,x.right.length<=1000000) (Y:g.qa0.length<=1000000) (J:AnV G C g) (h:St G F As):
  ν 110 #[pj (mB ⟨C,0,nC⟩),oY st] F λr D=>∃B A S,r=.map (mB A)/\G.le B/\HW k g.qa0 (bI g) st S/\St B D (mS bg B A S::As):=by
 refine UC ?_;unfold Oa;refine h.newG λb1 G1 F1 l1 q1 _ h=>h.newG λb3 G2 F2 K q3 _ h=>h.new λA F3 h=> ?_;have h:=h.toMap bg;refine h.new λb5 F4 h=> ?_;refine h.set0 (w':= #[.map (mB A)]) (vp rfl) rfl λF5 h=> ?_;obtain ⟨G3,I,⟨H,V,P⟩,h⟩:=h.pin;have q5:=P _ _ V;have E:=aa l1 (aa K I);have up:∀(B w D:PH) (x:Unit) (S:Int->Tr),B.le w->St w D (mS bg B A S::As)->St w D (mS bg w A S::As):=λB w D _ S l h=>h.imp 0 rfl λH _ ⟨o,mp,N,O,a3⟩=>⟨o,mp,N,O,a3.le l⟩;have h:=up _ _ _ () _ I h;refine ⟨_,ld (h.le _ _ q5) rfl,?_⟩;refine (FB (L8 (As:=As) L hl Y (I _ _ (K _ _ q1)) (I _ _ q3) q5 (J.le E)) up (x:=()) (λ_=>Sx.qa6 k nS) (λn c X=>by cases X) h).mono ?_;rintro _ F6 ⟨Q,S,rfl,M,U,W,Z,h⟩;exact ⟨rfl,_,ld (h.le _ _ (M _ _ q5)) rfl,Q,A,S,rfl,aa E M,HX L.prs U W Z,h⟩
end
structure uj (k n:Nat) (l:List Pr) (P:Nat->Tr) (C:Int->Tr):Prop where
 sx:Sxs k C
 iff:∀(i:Nat) c,i<n->((C i).ev c=nZ↔Tg (WD l P c) i i)
theorem St.exI {α:Type} {G F:PH} {As:List (Ψ)} {A:α->Ψ} (h:St G F As) (i:Nat) (hi:As[i]? =mB λH=>∃x,A x H):∃x,St G F (As.set i (A x)):=by
 obtain ⟨E,C,w,J⟩:=h;obtain ⟨⟨x,D⟩,hd,r⟩:=w i _ hi;refine ⟨x,E,C,λj B g=> ?_,λj k g I=>J j k (by simpa using g) (by simpa using I)⟩;by_cases e:j=i
 ·subst e;rw [X3 (N6.1 hi).1] at g;cases g;exact ⟨D,hd,r⟩
 ·rw [Zj (Ne.symm e)] at g;exact w j B g
theorem St.prI {P:Prop} {G F:PH} {As:List (Ψ)} {A:Ψ} (h:St G F As) (i:Nat) (hi:As[i]? =mB λH=>P/\A H):P/\St G F (As.set i A):=by obtain ⟨H,⟨g,_⟩,_⟩:=h.get hi;exact ⟨g,h.imp i hi λ_ _ h=>h.2⟩
theorem St.hd {G F:PH} {As:List (Ψ)} {A:Ψ} (h:St G F (A::As)):St G F [A]:=h.pick id (λ_ _ _ _ e=>e) λi hi=>by
 cases i with
 |zero=>rfl
 |succ i=>simp at hi
section
variable {G F Gd:PH} {g:Gr} {k m mu ms:Nat} {D:Int->Tr}
theorem mS.le {r:Type} [DecidableEq r] {enc:r->ξ} {G w:PH} {m:Nat} {S:r->Tr} {H:PH} (h:mS enc G m S H) (l:G.le w):mS enc w m S H:=by obtain ⟨o,mp,C,A,B⟩:=h;exact ⟨o,mp,C,A,B.le l⟩
end
theorem St.var1 {G F:PH} {As:List (Ψ)} (h:St G F As) {z v:ξ} {e:TypeId} {K:Nat->Ψ} (k:∀b g r,G.le g->g b=mB (mX #[v] e)->St g r As->K b r):∀b,F b=nC->wn (F.set b (mX #[z] e)) λF=>rj F (pd b 0 nC) v (K b):=by refine h.new λb w h=> ?_;refine h.set0 (w':= #[v]) (vp rfl) rfl λF2 h=> ?_;exact h.pinb λg l q h=>k b g F2 l q h
def tN (n:Nat):Φ:=(List.range n).map λi:Nat=>(i:Int)
theorem Ii {n i:Nat} (h:i<n):(tN n)[i]? =mB (i:Int):=by unfold tN;rw [yr,XK h];rfl
instance:Mem (List wc) where
 n:=1
 rep F x c:=∃s:Sl,c= #[s.v]/\RL F s x
 len h:=by obtain ⟨s,rfl,_⟩:=h;rfl
 le hl h:=by obtain ⟨s,h1,h2⟩:=h;exact ⟨s,h1,h2.le hl⟩
 st h:=by obtain ⟨s,rfl,_⟩:=h;simp [ak,nV]
theorem gg {α:Type} [DecidableEq α]:∀{l m:List α},l.Nodup->(∀x∈l,x∈m)->l.length<=m.length
 |[],_,_,_=>yM _
 |x::l,m,h,hs=>by rw [Wx] at h;have g:=hs x (by simp);have:=gg (m:=m.erase x) h.2 λy r=>(List.mem_erase_of_ne λe=>h.1 (by rw [<- e];exact r)).2 (hs y (VB _ r));rw [List.length_erase_of_mem g] at this;have w:0<m.length:=List.length_pos_of_mem g;rw [wo];omega
theorem jw {K:Type} [DecidableEq K] {k:K} {v:ξ}:∀{L:List (K×ξ)},(L.map (·.1)).Nodup->(lk k L=mB v↔(k,v)∈L)
 |[],_=>by simp [lk]
 |p::L,h=>by
  rw [xV,Wx] at h;unfold lk;by_cases e:k=p.1
  ·rw [Χ e];constructor
   ·intro g;cases g;rw [e];exact Xw ..
   ·intro g;rcases tQ.1 g with g|g
    ·rw [<- g]
    ·exact absurd (xR.2 ⟨_,g,e⟩) h.1
  ·rw [Υ e,jw h.2,tQ];exact ⟨.inr,λg=>g.resolve_left λg=>e (by rw [<- g])⟩
theorem uk {K:Type} [DecidableEq K] (k:K):∀(L:List (K×ξ)) (i:Nat),We k L i=nC->∀p∈L,p.1≠k
 |[],_,_,p,h=>by cases h
 |q::L,i,h,p,g=>by
  unfold We at h;split at h
  ·cases h
  ·rename_i r;rcases tQ.1 g with rfl|g
   ·exact λe=>r e.symm
   ·exact uk k L _ h p g
section
variable {K:Type} [DecidableEq K] {enc:K->ξ} {m:K->Option ξ} {F:PH} {r:Nat}
structure rk (enc:K->Value) (m:K->Option Value) (es:Array MapEntry) (c:Nat) (L:List (K×Value)):Prop where
 eq:es.toList.map (λe=>(e.key,e.val))=L.map (λp=>(enc p.1,p.2))
 lk:∀k,m k=lk k L
 st:MapKept.Stamped es c
def yq (enc:K->ξ) (m:K->Option ξ) (o:Obj):Prop:=∃es c L,o=.map es c/\rk enc m es c L
theorem yq.mapO {o:Obj} (h:yq enc m o):dW enc m o:=by obtain ⟨g,c,L,rfl,h⟩:=h;exact ⟨g,c,L,rfl,h.eq,h.lk⟩
theorem yq.empty (enc:K->ξ):yq enc (λ_=>nC) (.map #[] 0):=⟨#[],0,[],rfl,rfl,λ_=>rfl,MapKept.stamped_empty 0⟩
theorem rk.len {g:Array MapEntry} {c:Nat} {L:List (K×ξ)} (h:rk enc m g c L):g.size=L.length:=by simpa using congrArg List.length h.eq
theorem rk.nodup {w:Array MapEntry} {c:Nat} {L:List (K×ξ)} (h:rk enc m w c L):(L.map (·.1)).Nodup:=by
 have A:=h.st.2.2;have e:w.toList.map (·.key)=(L.map (·.1)).map enc:=by have:=congrArg (List.map Prod.fst) h.eq;simpa [List.map_map,Function.comp_def] using this
 rw [e] at A;exact (List.pairwise_map.1 A).imp λg e=>g (by rw [e])
theorem rk.entry {g:Array MapEntry} {c:Nat} {L:List (K×ξ)} (h:rk enc m g c L) {e:MapEntry} (B:e∈g.toList):∃k,e.key=enc k/\m k=mB e.val:=by
 have A:(e.key,e.val)∈g.toList.map (λe=>(e.key,e.val)):=xR.2 ⟨e,B,rfl⟩;rw [h.eq] at A;obtain ⟨p,C,w⟩:=xR.1 A;injection w with w h3
 exact ⟨p.1,w.symm,by rw [h.lk,<- h3];exact (jw h.nodup).2 C⟩
theorem rk.of {A:Array MapEntry} {c:Nat} {L:List (K×ξ)} (h:rk enc m A c L) {k:K} {v:ξ} (w:m k=mB v):∃e∈A.toList,e.key=enc k/\e.val=v:=by
 rw [h.lk,jw h.nodup] at w;have B:(enc k,v)∈L.map λp=>(enc p.1,p.2):=xR.2 ⟨_,w,rfl⟩;rw [<- h.eq] at B;obtain ⟨e,C,g⟩:=xR.1 B;injection g with g h3
 exact ⟨e,C,g,h3⟩
variable {P:Program} {mt:TypeId} {z:ξ}
theorem FD (hm:fO P mt enc z) (J:∀a b,enc a=enc b->a=b) {o:Obj} (V:F r=mB o) (X:yq enc m o) (k:K) (v:ξ) {Q:Unit->Ψ}
  (h:∀o',yq enc (λk'=>if k'=k then mB v else m k') o'->Q () (F.set r o')):aH P (Instr.mapUpdate mt (.map (mB r)) (enc k) v) F Q:=by
 obtain ⟨kt,e,h1,h2,U⟩:=hm.ex;have C:=X.mapO.not_cells;obtain ⟨A,c,L,rfl,g⟩:=X;have E:=g.eq;have hf:=mH k v L 0;have hn:=mF k v L 0;unfold Instr.mapUpdate;simp only [aE,bW h1];refine ⟨_,V,C,?_⟩;rw [show (Sem.pure (Obj.map A c):Sem Obj)=pure (Obj.map A c) from rfl];simp only [aM,aE];refine gL _ _ _ _ (U.chk F _ k) ?_;refine gL _ _ _ _ (gl U k _ _ E) ?_;have I:∀k',(if k'=k then mB v else m k')=lk k' (Wt k v L):=λk'=>by rw [BX,g.lk]
 cases hfd:We k L 0 with
 |none=>
  refine ⟨_,V,C,h _ ⟨_,_,Wt k v L,rfl,?_,I,MapKept.stamped_push g.st λx Z=> ?_⟩⟩
  ·rw [(hn hfd).2];simp [E]
  ·obtain ⟨k',e1,Y⟩:=g.entry Z;rw [e1];intro e';have:=J _ _ e';rw [g.lk,jw g.nodup] at Y;exact uk k L 0 hfd _ Y this
 |some q=>
  obtain ⟨j,w⟩:=q;obtain ⟨d,hj,hd,W,h6,h7⟩:=hf j w hfd;obtain rfl:j=d:=by omega
  have D:=g.len;have M:∀e∈A.toList,A[j]? =mB e->enc k=e.key:=λe _ he=>by
   have:=congrArg (λl=>l[j]?) E;simp only [yr,W,VF,YR,he] at this;injection this with this
   injection this with this _
   exact this.symm
  have H:(A[j]?.map (·.key)).getD (enc k)=enc k:=by
   have:=congrArg (λl=>l[j]?) E;simp only [yr,W,VF] at this;have B:j<A.size:=by omega
   simp [B] at this ⊢;exact this.1
  simp only [aE,H,Instr.keyThatStays,U.same,if_true,aM];refine ⟨_,V,C,h _ ⟨_,_,Wt k v L,rfl,?_,I,MapKept.stamped_modify g.st j _ (λ_ _=>rfl) (λe O N=>M e O N)⟩⟩;rw [h7];apply Wp;intro i;have G:=congrArg (λl=>l[i]?) E;simp only [yr] at G;simp only [Array.toList_modify,yr,YS,Yt];by_cases hi:j=i
  ·subst hi;have B:j<A.toList.length:=by simpa [D] using hd
   rw [N5 B];simp [hd]
  ·simp only [hi,if_false];simpa using G
end
section
variable {F:PH} {r:Nat}
theorem qgX {n:Nat} (w:0<n) {F:PH} {Q:Nat->Ψ} (h:∀i,i<n->Q i F):aH prog (choose (.mapNext n)) F Q:=by
 unfold choose;unfold aH;by_cases g:(Question.mapNext n).forced=nZ
 ·rw [Χ g];exact h 0 w
 ·rw [Υ g];intro t;exact h (t % n) (VU _ w)
theorem Ba {w:Array MapEntry} {c b:Nat} {az:Array Nat} {N:TypeId} (P:F r=mB (.map w c)) (D:MapKept.Stamped w c) (L:F b=mB (.mapIter (mB r) c az c)) {Q:ξ->Ψ}
  (U:(∀e∈w.toList,az.contains e.born=nZ)->Q (sj #[oY nS]) F)
  (O:∀e∈w.toList,az.contains e.born=nS->Q (sj #[oY nZ,e.key,e.val]) (F.set b (.mapIter (mB r) c (az.push e.born) c))):
  aH prog (Instr.next (pj (mB ⟨b,0,nC⟩)) nS N) F Q:=by
 unfold Instr.next;simp only [aE];refine ⟨_,L,λ_ _ _ h=>(by cases h),?_⟩;rw [show (Sem.pure (Obj.mapIter (mB r) c az c):Sem Obj)=pure (Obj.mapIter (mB r) c az c) from rfl];simp only [aM,aE];refine ⟨_,P,λ_ _ _ h=>(by cases h),?_⟩;rw [show (Sem.pure (Obj.map w c):Sem Obj)=pure (Obj.map w c) from rfl];simp only [aM];have C:(w.all λe=>decide (e.born≥c))=nS\/w.isEmpty=nZ:=by
  by_cases E:w.isEmpty=nZ
  ·exact .inr E
  ·left;rw [Yv];intro M;rw [Array.all_eq_true'] at M;have J:w.toList≠[]:=λe=>E (by rw [Array.isEmpty_iff];exact Array.toList_eq_nil_iff.1 e);obtain ⟨x,K⟩:=List.exists_mem_of_ne_nil _ J;have V:=D.1 x K;have H:=M x (Array.mem_def.2 K);simp at H;omega
 have I:(!az.isEmpty && !w.isEmpty && w.all λe=>decide (e.born≥c))=nS:=by rcases C with h|h<;>simp [h]
 rw [I];simp only [VQ,if_false,aE]
 refine qgX (by
  rw [Array.size_append];by_cases B:((w.filter λe=> !az.contains e.born).filter λx=>decide (x.born<c)).isEmpty=nZ
  ·rw [Χ B];exact Nat.lt_of_lt_of_le Nat.zero_lt_one (Nat.le_add_right _ _)
  ·rw [Υ B];have:0<((w.filter λe=> !az.contains e.born).filter λx=>decide (x.born<c)).size:=by
    rcases XL ((w.filter λe=> !az.contains e.born).filter λx=>decide (x.born<c)).size with h|h
    ·exact absurd (by simpa [Array.isEmpty] using h) B
    ·exact h
   rw [Array.size_map,Array.size_append]
   omega) λi hi=> ?_
 rw [Wh hi];have g:=Array.getElem_mem hi;revert g;generalize ((if ((w.filter λe=> !az.contains e.born).filter λx=>decide (x.born<c)).isEmpty=nZ then #[nC] else #[])++Array.map mB ((w.filter λe=> !az.contains e.born).filter (λx=>decide (x.born<c))++(w.filter λe=> !az.contains e.born).filter λx=>decide (x.born≥c)))[i]=y;intro g;rw [Array.mem_append] at g;cases y with
 |none=>
  simp only [aM];refine U λe E=> ?_;have H:=D.1 e E;rcases g with g|g
  ·by_cases B:((w.filter λe=> !az.contains e.born).filter λx=>decide (x.born<c)).isEmpty=nZ
   ·cases hs:az.contains e.born with
    |true=>rfl
    |false=>
     exfalso;have A:e∈(w.filter λe=> !az.contains e.born).filter λx=>decide (x.born<c):=by rw [Array.mem_filter,Array.mem_filter];exact ⟨⟨Array.mem_def.2 E,by rw [hs];rfl⟩,by simpa using H⟩
     rw [Array.isEmpty_iff] at B;rw [B] at A;exact absurd A (by simp)
   ·rw [Υ B] at g;exact absurd g (by simp)
  ·rw [Array.mem_map] at g;obtain ⟨_,_,h⟩:=g;cases h
 |some e=>
  have A:e∈w/\az.contains e.born=nS:=by
   rcases g with g|g
   ·split at g
    ·simp at g
    ·simp at g
   ·rw [Array.mem_map] at g;obtain ⟨W,G,h⟩:=g;injection h with h
    subst h;simp only [Array.mem_append,Array.mem_filter] at G;rcases G with h|h
    ·exact ⟨h.1.1,by simpa using h.1.2⟩
    ·exact ⟨h.1.1,by simpa using h.1.2⟩
  simp only [aE,aM];refine ⟨_,L,λ_ _ _ h=>(by cases h),O e (Array.mem_def.1 A.1) A.2⟩
theorem qia {w B e:TypeId} (C:prog.underlying w=mB (.map B e)) {g:Array MapEntry} {c:Nat} (A:F r=mB (.map g c)) {Q:ξ->Ψ} (h:∀b,F b=nC->Q (.pointer (mB ⟨b,0,nC⟩)) (F.set b (.mapIter (mB r) c #[] c))):aH prog (Instr.range w (.map (mB r))) F Q:=by unfold Instr.range;simp only [aE,bW C];refine ⟨_,A,λ_ _ _ h=>(by cases h),?_⟩;rw [show (Sem.pure (Obj.map g c):Sem Obj)=pure (Obj.map g c) from rfl];simp only [aM,aE,newObj,aH];exact h
theorem rn:∀{l:List MapEntry},(l.map (·.born)).Nodup->∀{a b},a∈l->b∈l->a.born=b.born->a=b
 |[],_,_,_,g,_,_=>by simp at g
 |x::l,h,a,b,g,w,e=>by
  rw [xV,Wx] at h;rcases tQ.1 g with g|g<;>rcases tQ.1 w with w|w
  ·rw [g,w]
  ·exact absurd (xR.2 ⟨b,w,by rw [<- e,g]⟩) h.1
  ·exact absurd (xR.2 ⟨a,g,by rw [e,w]⟩) h.1
  ·exact rn h.2 g w e
theorem FE {F:PH} {g:Array MapEntry} {c r b:Nat} {az:Array Nat} {e:MapEntry} (C:F r=mB (.map g c)) (w:MapKept.Stamped g c) (D:F b=mB (.mapIter (mB r) c (az.push e.born) c)) (A:e∈g.toList):
  s9 prog (Instr.entry (pj (mB ⟨b,0,nC⟩))) F (sj #[e.key,e.val]):=by
 unfold Instr.entry;simp only [am];refine ⟨_,⟨_,D,λ_ _ _ h=>(by cases h),rfl⟩,?_⟩;simp only [Array.back?_push];simp only [am];refine ⟨_,⟨_,C,λ_ _ _ h=>(by cases h),rfl⟩,?_⟩;simp only [bne_self_eq_false,VQ,if_false];have G:g.find? (λx=>x.born==e.born)=mB e:=by
  cases h:g.find? (λx=>x.born==e.born) with
  |none=>rw [Array.find?_eq_none] at h;exact absurd (show (e.born==e.born)=nZ by simp) (h e (Array.mem_def.2 A))
  |some y=>have B:=Array.mem_of_find?_eq_some h;have E:=Array.find?_some h;rw [rn w.2.1 (Array.mem_def.1 B) A (by simpa using E)]
 rw [G];rfl
end
section
variable {K:Type} [DecidableEq K] {enc:K->ξ} {m:K->Option ξ} {G F:PH} {As:List (Ψ)} {r b c:Nat} {es:Array MapEntry} {L:List (K×ξ)}
theorem St.newB (h:St G F As) {b:Nat} (w:F b=nC) (o:Obj):St G (F.set b o) (pt b o::As):=h.push (H:=PH.set (λ_=>nC) b o) (aq _ _ _) (λx g=>by
 by_cases e:x=b
 ·rw [e];exact w
 ·rw [aw _ _ e] at g;exact absurd rfl g) (λx p g=>by
 by_cases e:x=b
 ·rw [e,aq] at g ⊢;exact g
 ·rw [aw _ _ e] at g;cases g) (ae o w)
def itG (enc:K->ξ) (r b:Nat) (es:Array MapEntry) (c:Nat) (ks:List K):Ψ:=λH=>∃done:List MapEntry,done.map (·.key)=ks.map enc/\(∀e∈done,e∈es.toList)/\H b=mB (.mapIter (mB r) c (done.map (·.born)).toArray c)
theorem St.rangeG {w E e:TypeId} (I:prog.underlying w=mB (.map E e)) (h:St G F As) (enc:K->ξ) (A:F r=mB (.map es c)) {C:Nat->Ψ} (k:∀b g,St G g (itG enc r b es c []::As)->C b g):
  aH prog (Instr.range w (.map (mB r))) F λv F=>∃b,v=pj (mB ⟨b,0,nC⟩)/\C b F:=by
 have _:=(inferInstance:DecidableEq K);refine qia I A λb D=>⟨b,rfl,?_⟩;have:=h.newB D (.mapIter (mB r) c #[] c);exact k b _ (this.imp 0 rfl λH _ B=>⟨[],rfl,λ_ h=>(by cases h),B⟩)
theorem St.nextG (D:rk enc m es c L) (a1:∀a b,enc a=enc b->a=b) {ks:List K} (h:St G F (itG enc r b es c ks::As)) (hn:ks.Nodup) (hs:∀k∈ks,∃v,m k=mB v) (hr:F r=mB (.map es c)) {ty:TypeId} {Q:ξ->Ψ}
  (fin:(∀k v,m k=mB v->k∈ks)->Q (sj #[oY nS]) F)
  (step:∀k v F',m k=mB v->k ∉ ks->ks.length<es.size->St G F' (itG enc r b es c (ks++[k])::As)->F' r=mB (.map es c)->s9 prog (Instr.entry (pj (mB ⟨b,0,nC⟩))) F' (sj #[enc k,v])->Q (sj #[oY nZ,enc k,v]) F'):
  aH prog (Instr.next (pj (mB ⟨b,0,nC⟩)) nS ty) F Q:=by
 obtain ⟨H,⟨g,h1,h2,h3⟩,hd,a0,X⟩:=h.set (i:=0) (A':=itG enc r b es c ks) rfl;clear X;have hb:=a0 _ _ h3;have J:∀e∈es.toList,e∈g↔∃k∈ks,e.key=enc k:=λe B=>by
  constructor
  ·intro hi;have:e.key∈g.map (·.key):=xR.2 ⟨e,hi,rfl⟩;rw [h1] at this;obtain ⟨k,M,A⟩:=xR.1 this;exact ⟨k,M,A.symm⟩
  ·rintro ⟨k,M,A⟩;have:enc k∈ks.map enc:=xR.2 ⟨k,M,rfl⟩;rw [<- h1] at this;obtain ⟨x,w,N⟩:=xR.1 this;have:x=e:=pN D.st.2.2 (h2 x w) B (by rw [N,A]);rw [<- this];exact w
 have C:∀e∈es.toList,((g.map (·.born)).toArray.contains e.born=nZ↔e∈g):=λe B=>by
  rw [Array.contains_iff_mem,Array.mem_def];constructor
  ·intro hi;obtain ⟨a,Z,A⟩:=xR.1 hi;rw [<- rn D.st.2.1 (h2 a Z) B A];exact Z
  ·intro hi;exact xR.2 ⟨e,hi,rfl⟩
 refine Ba hr D.st hb (λO=>fin λk v M=> ?_) λe B E=> ?_
 ·obtain ⟨e,B,P,_⟩:=D.of M;obtain ⟨k',a2,N⟩:=(J e B).1 ((C e B).1 (O e B));rw [a1 k k' (by rw [<- P,N])];exact a2
 ·obtain ⟨k,P,N⟩:=D.entry B;have a6:e ∉ g:=λhi=>by rw [(C e B).2 hi] at E;cases E
  have M:k ∉ ks:=λhi=>a6 ((J e B).2 ⟨k,hi,P⟩);have a4:r≠b:=λA=>by rw [A,hb] at hr;cases hr
  have Y:(F.set b (.mapIter (mB r) c ((g.map (·.born)).toArray.push e.born) c)) r=mB (.map es c):=by rw [aw _ _ a4];exact hr
  have a5:ks.length<es.size:=by
   have U:∀x∈ks++[k],x∈L.map (·.1):=λx w=>by
    have:∃v,m x=mB v:=by
     rcases vl.1 w with w|w
     ·exact hs x w
     ·rw [wa.1 w];exact ⟨_,N⟩
    obtain ⟨v,hv⟩:=this;rw [D.lk,jw D.nodup] at hv;exact xR.2 ⟨_,hv,rfl⟩
   have a8:(ks++[k]).Nodup:=by rw [VC];exact ⟨hn,by simp,λa Z b' a7 A=>M (by rw [wa.1 a7] at A;rw [<- A];exact Z)⟩
   have:=gg a8 U;rw [tT,Vc,vb,<- D.len] at this;omega
  have a3:St G (F.set b (.mapIter (mB r) c ((g.map (·.born)).toArray.push e.born) c)) (itG enc r b es c (ks++[k])::As):=by
   obtain ⟨H2,⟨d2,g1,g2,g3⟩,gd,W,V⟩:=h.set (i:=0) (A':=itG enc r b es c (ks++[k])) rfl;have ed:d2.map (·.born)=g.map (·.born):=by
    have:=W _ _ g3;rw [hb] at this;injection this with this
    injection this with _ _ this _
    simpa using this.symm
   refine V (H2.set b (.mapIter (mB r) c ((g.map (·.born)).toArray.push e.born) c)) _ ⟨d2++[e],by simp [g1,P],λx w=> ?_,?_⟩ (λx w=> ?_) (λx p w=> ?_) (λx p w hn=> ?_)
   ·rcases vl.1 w with w|w
    ·exact g2 x w
    ·rw [wa.1 w];exact B
   ·rw [aq,yO,ed];simp
   ·by_cases A:x=b
    ·rw [A,g3];exact .inl (by simp)
    ·rw [aw _ _ A] at w;exact .inl w
   ·by_cases A:x=b
    ·rw [A,aq] at w ⊢;exact w
    ·rw [aw _ _ A] at w ⊢;exact W _ _ w
   ·have A:x≠b:=λA=>by rw [A,g3] at hn;cases hn
    rw [aw _ _ A];exact w
  have I:=FE (e:=e) Y D.st (aq F b (.mapIter (mB r) c ((g.map (·.born)).toArray.push e.born) c)) B;rw [P] at I ⊢;exact step k e.val _ N M a5 a3 Y I
where
 pN:∀{l:List MapEntry},(l.map (·.key)).Nodup->∀{a b:MapEntry},a∈l->b∈l->a.key=b.key->a=b
  |[],_,_,_,ha,_,_=>by simp at ha
  |x::l,h,a,b,ha,hb,e=>by
   rw [xV,Wx] at h;rcases tQ.1 ha with ha|ha<;>rcases tQ.1 hb with hb|hb
   ·rw [ha,hb]
   ·exact absurd (xR.2 ⟨b,hb,by rw [<- e,ha]⟩) h.1
   ·exact absurd (xR.2 ⟨a,ha,by rw [e,hb]⟩) h.1
   ·exact pN h.2 ha hb e
end
section
variable {k:Nat} {l:List Pr} {P:Nat->Tr} {N:Int->Tr}
def nD (N:Int->Tr) (Pi:Tr) (r:List Sy) (j:Nat):Tr:=if (r.eraseIdx j).any (·.t)=nZ then qa6 nS else fj N Pi (r.eraseIdx j)
def rp (N:Int->Tr) (Pi:Tr) (x:Pr):Nat->List Sy->(Int×Int->Tr)->Int×Int->Tr
 |_,[],S=>S
 |j,s::r,S=>rp N Pi x (j+1) r (if s.t=nZ then S else dV S (x.left,s.i) (nD N Pi x.right j))
def tO (N:Int->Tr) (P:Nat->Tr):Nat->List Pr->(Int×Int->Tr)->Int×Int->Tr
 |_,[],S=>S
 |i,x::l,S=>tO N P (i+1) l (rp N (P i) x 0 x.right S)
theorem ia (E:Sxs k N) {D:Tr} (H:Sx k D) (r:List Sy) (j:Nat):Sx k (nD N D r j)/\∀c,(nD N D r j).ev c=nZ↔D.ev c=nZ/\∀m y,m≠j->r[m]? =mB y->y.t=nS/\(N y.i).ev c=nZ:=by
 obtain ⟨I,G⟩:=cJ E (r.eraseIdx j) H;unfold nD;by_cases B:(r.eraseIdx j).any (·.t)=nZ
 ·rw [Χ B];refine ⟨Sx.qa6 k nS,λc=>⟨λh=>(by cases h),λh=> ?_⟩⟩;rw [XI] at B;obtain ⟨y,A,w⟩:=B;obtain ⟨m,C,g⟩:=List.mem_eraseIdx_iff_getElem?.1 A;have:=(h.2 m y C g).1;rw [w] at this;cases this
 ·rw [Υ B];refine ⟨I,λc=> ?_⟩;rw [G,W2,Vq];refine and_congr_right λ_=>⟨λh m y C g=> ?_,λh y A=> ?_⟩
  ·have A:y∈r.eraseIdx j:=List.mem_eraseIdx_iff_getElem?.2 ⟨m,C,g⟩;have w:y.t=nS:=by
    cases e:y.t with
    |false=>rfl
    |true=>exact absurd (XI.2 ⟨y,A,e⟩) B
   have:=h y A;rw [w,Bool.false_or] at this;exact ⟨w,this⟩
  ·obtain ⟨m,C,g⟩:=List.mem_eraseIdx_iff_getElem?.1 A;rw [(h m y C g).2,Bool.or_true]
theorem kQ (G:Sxs k N) {B:Tr} (H:Sx k B) (x:Pr):∀(r:List Sy) (j:Nat) {S:Int×Int->Tr},Sxs k S->Sxs k (rp N B x j r S)/\
  ∀n c,(rp N B x j r S n).ev c=nZ↔(S n).ev c=nZ\/∃m s,r[m]? =mB s/\s.t=nS/\n=(x.left,s.i)/\(nD N B x.right (j+m)).ev c=nZ
 |[],j,S,hS=>⟨hS,λn c=>⟨.inl,λh=>h.resolve_right λ⟨m,s,h,_⟩=>(by simp at h)⟩⟩
 |s::r,j,S,hS=>by
  have hd:=(ia G H x.right j).1;unfold rp;have g:∀(n:Int×Int) (c:Cf),(∃m y,(s::r)[m]? =mB y/\y.t=nS/\n=(x.left,y.i)/\(nD N B x.right (j+m)).ev c=nZ)↔(s.t=nS/\n=(x.left,s.i)/\(nD N B x.right j).ev c=nZ)\/∃m y,r[m]? =mB y/\y.t=nS/\n=(x.left,y.i)/\(nD N B x.right (j+1+m)).ev c=nZ:=λn c=>by
   constructor
   ·rintro ⟨m,y,A,w,D,C⟩;cases m with
    |zero=>cases A;exact .inl ⟨w,D,C⟩
    |succ m=>exact .inr ⟨m,y,by simpa using A,w,D,by rw [show j+1+m=j+(m+1) by omega];exact C⟩
   ·rintro (⟨w,D,C⟩|⟨m,y,A,w,D,C⟩)
    ·exact ⟨0,s,rfl,w,D,C⟩
    ·exact ⟨m+1,y,by simpa using A,w,D,by rw [show j+(m+1)=j+1+m by omega];exact C⟩
  by_cases E:s.t=nZ
  ·rw [Χ E];obtain ⟨A,w⟩:=kQ G H x r (j+1) hS;refine ⟨A,λn c=> ?_⟩;rw [w,g];refine or_congr_right ⟨.inr,λh=>h.resolve_left λ⟨h,_⟩=>(by rw [E] at h;cases h)⟩
  ·rw [Υ E];obtain ⟨A,w⟩:=kQ G H x r (j+1) (pv hS hd (n:=(x.left,s.i)));refine ⟨A,λn c=> ?_⟩;rw [w,g,lP hS hd,Bool.or_eq_true_iff,W2,δ,or_assoc];refine or_congr_right (or_congr_left ⟨λh=>⟨Yv.2 E,h⟩,λh=>h.2⟩)
theorem rq (g:Sxs k N) (r:∀i,Sx k (P i)):∀(l:List Pr) (i:Nat) {S:Int×Int->Tr},Sxs k S->Sxs k (tO N P i l S)/\
  ∀n c,(tO N P i l S n).ev c=nZ↔(S n).ev c=nZ\/∃(m:Nat) (x:Pr) (j:Nat) (s:Sy),l[m]? =mB x/\x.right[j]? =mB s/\s.t=nS/\n=(x.left,s.i)/\(nD N (P (i+m)) x.right j).ev c=nZ
 |[],i,S,hS=>⟨hS,λn c=>⟨.inl,λh=>h.resolve_right λ⟨m,x,j,s,h,_⟩=>(by simp at h)⟩⟩
 |x::l,i,S,hS=>by
  obtain ⟨C,w⟩:=kQ g (r i) x x.right 0 hS;unfold tO;obtain ⟨B,A⟩:=rq g r l (i+1) C;refine ⟨B,λn c=> ?_⟩;rw [A,w,or_assoc];refine or_congr_right ?_;constructor
  ·rintro (⟨j,s,a,b,d,e⟩|⟨m,y,j,s,a,b,d,e,f⟩)
   ·exact ⟨0,x,j,s,rfl,a,b,d,by rw [yp] at e;exact e⟩
   ·exact ⟨m+1,y,j,s,by simpa using a,b,d,e,by rw [show i+(m+1)=i+1+m by omega];exact f⟩
  ·rintro ⟨m,y,j,s,a,b,d,e,f⟩;cases m with
   |zero=>cases a;exact .inl ⟨j,s,b,d,e,by rw [yp];exact f⟩
   |succ m=>exact .inr ⟨m,y,j,s,by simpa using a,b,d,e,by rw [show i+1+m=i+(m+1) by omega];exact f⟩
structure yt (k:Nat) (l:List Pr) (P:Nat->Tr) (S:Int×Int->Tr):Prop where
 sx:Sxs k S
 iff:∀n c,(S n).ev c=nZ↔WD l P c n.1 n.2
theorem L9 (r:HW k l P nZ N) (A:∀i,Sx k (P i)):yt k l P (tO N P 0 l λ_=>qa6 nS):=by
 obtain ⟨E,D⟩:=rq r.sx A l 0 (S:=λ_=>qa6 nS) λ_=>Sx.qa6 k nS;refine ⟨E,λn c=>(D n c).trans ?_⟩;constructor
 ·rintro (h|⟨m,x,j,s,a,b,d,e,f⟩)
  ·cases h
  ·rw [yp] at f;obtain ⟨C,f2⟩:=((ia r.sx (A m) x.right j).2 c).1 f;rw [e];exact ⟨m,j,x,s,a,b,d,rfl,rfl,C,λq y w B=>(f2 q y w B).imp id (r.iff _ _).1⟩
 ·rintro ⟨i,j,x,s,a,b,d,e,f,g,h⟩;refine .inr ⟨i,x,j,s,a,b,d,Prod.ext e.symm f.symm,?_⟩;rw [yp];exact ((ia r.sx (A i) x.right j).2 c).2 ⟨g,λq y w B=>(h q y w B).imp id (r.iff _ _).2⟩
def iO (l:List Pr):List (Int×Int):=l.flatMap λx=>x.right.map λs=>(x.left,s.i)
theorem FF {l:List Pr} (h:∀x∈l,x.right.length<=16):(iO l).length<=l.length*16:=by
 induction l with
 |nil=>exact tI _
 |cons x l ih=>have w:=h x (by simp);have r:=ih λy g=>h y (VB _ g);unfold iO at*;rw [VD,tT,vb,wo];omega
variable {T:Int×Int->Tr} {fam:Tr} {n:Int}
structure Bfs (k:Nat) (l:List Pr) (P:Nat->Tr) (T:Int×Int->Tr) (fam:Tr) (n:Int) (R:Int->Tr) (q:Φ):Prop where
 sx:Sxs k R
 snd:∀m c,(R m).ev c=nZ->Tg (WD l P c) n m
 qa5:∀m c,fam.ev c=nZ->(T (n,m)).ev c=nZ->(R m).ev c=nZ
 clos:∀m,m≠n->m ∉ q->∀m' c,(R m).ev c=nZ->(T (m,m')).ev c=nZ->(R m').ev c=nZ
structure Vis (k:Nat) (keys:Φ) (T:Int×Int->Tr) (a:Int) (d:Tr) (R R':Int->Tr) (ps:Φ):Prop where
 sx:Sxs k R'
 le:Lt' R R'
 snd:∀m c,(R' m).ev c=nZ->(R m).ev c=nZ\/(d.ev c=nZ/\(T (a,m)).ev c=nZ)
 cpl:∀m c,d.ev c=nZ->(T (a,m)).ev c=nZ->(R' m).ev c=nZ
 pu:∀m,R' m≠R m->m∈ps
 mu:mu k keys R'+ps.length<=mu k keys R
theorem Bfs.start (A:yt k l P T) {R:Int->Tr} {w keys:Φ} (r:Vis k keys T n fam (λ_=>qa6 nS) R w):Bfs k l P T fam n R w:=by
 refine ⟨r.sx,λm c g=> ?_,r.cpl,λm _ B C c g _=> ?_⟩
 ·rcases r.snd m c g with h|⟨_,h⟩
  ·cases h
  ·exact .one ((A.iff _ _).1 h)
 ·have:R m=qa6 nS:=Classical.not_not.1 λe=>B (r.pu m e);rw [this] at g;cases g
theorem Bfs.visit (H:yt k l P T) {R C:Int->Tr} {m:Int} {q E keys:Φ} (h:Bfs k l P T fam n R (m::q)) (w:Vis k keys T m (R m) R C E):Bfs k l P T fam n C (q++E):=by
 refine ⟨w.sx,λg c r=> ?_,λg c L A=>w.le _ _ (h.qa5 g c L A),λa I D g c r A=> ?_⟩
 ·rcases w.snd g c r with J|⟨M,K⟩
  ·exact h.snd g c J
  ·exact .snoc (h.snd m c M) ((H.iff _ _).1 K)
 ·have B:a ∉ q:=λe=>D (vl.2 (.inl e));have e:C a=R a:=Classical.not_not.1 λe=>D (vl.2 (.inr (w.pu a e)));rw [e] at r;by_cases G:a=m
  ·rw [G] at r A;exact w.cpl g c r A
  ·exact w.le _ _ (h.clos a I (λO=>(tQ.1 O).elim G B) g c r A)
theorem Bfs.skip {R:Int->Tr} {q:Φ} (h:Bfs k l P T fam n R (n::q)):Bfs k l P T fam n R q:=
 ⟨h.sx,h.snd,h.qa5,λm g r=>h.clos m g λe=>(tQ.1 e).elim g r⟩
theorem Bfs.fin (r:yt k l P T) (w:∀a b c,WD l P c a b->fam.ev c=nZ) {R:Int->Tr} (h:Bfs k l P T fam n R []) (c:Cf):(R n).ev c=nZ↔Tg (WD l P c) n n:=by
 refine ⟨h.snd n c,λt=> ?_⟩;have key:∀{m:Int},Tg (WD l P c) n m->(R m).ev c=nZ:=λ{m} t=>by
  induction t with
  |one g=>exact h.qa5 _ c (w _ _ _ g) ((r.iff (n,_) c).2 g)
  | @snoc b d _ g ih=>
   by_cases e:b=n
   ·rw [e] at g;exact h.qa5 _ c (w _ _ _ g) ((r.iff (n,d) c).2 g)
   ·exact h.clos b e (by simp) d c ih ((r.iff (b,d) c).2 g)
 exact key t
end
section
variable {g:Gr} {k:Nat}
theorem OkK.fam_of (h:OkK g k) {i:Nat} {c:Cf} (r:(bI g i).ev c=nZ):(vf g.fam).ev c=nZ:=by
 cases hx:g.qa0[i]? with
 |none=>
  have:bI g i=qa6 nS:=by unfold bI;rw [hx]
  rw [this] at r;cases r
 |some x=>rw [h.prs_ev hx,W2,W2] at r;exact r.1.1
theorem OkK.stp_fam (h:OkK g k) {c:Cf} {a b:Int} (s:WD g.qa0 (bI g) c a b):(vf g.fam).ev c=nZ:=by obtain ⟨i,_,_,_,_,_,_,_,_,r,_⟩:=s;exact h.fam_of r
end
def VG (e:TypeId) (s:Sl) (vs:Ξ):Ψ:=λH=>∃b o cur,s.qa5=mB ⟨b,o,nC⟩/\H b=mB (mX cur e (0,0))/\o+s.cap<=cur.size/\s.len<=s.cap/\vs.length=s.len/\(cur.toList.drop o).take s.len=vs
section
variable {G F H:PH} {As:List (Ψ)} {e:TypeId} {s:Sl} {vs:Ξ}
theorem Rq (h:VG e s vs H):RdS H s 1 vs:=by obtain ⟨b,o,r,B,A,D,g,C,w⟩:=h;refine ⟨by omega,g,λ_=>⟨b,o,B,λi hi=> ?_⟩⟩;rw [av A];have:=congrArg (λl=>l[i]?) w;simp only [YN (show i<s.len by omega),List.getElem?_drop,YR] at this;rw [this,N5 hi]
theorem Ma {v:ξ} (h:VG e s (v::vs) H):VG e (xy s 1 1 s.len s.cap) vs H:=by
 obtain ⟨b,o,g,B,A,I,E,C,D⟩:=h;rw [wo] at C;by_cases w:s.cap=1
 ·have r:vs=[]:=VT (by omega);refine ⟨b,o,g,by unfold xy;rw [if_pos w];exact B,A,by unfold xy;dsimp only;omega,by unfold xy;dsimp only;omega,by unfold xy;dsimp only;omega,?_⟩;unfold xy;dsimp only;rw [r,show s.len - 1=0 by omega,Va]
 ·refine ⟨b,o+1,g,?_,A,by unfold xy;dsimp only;omega,by unfold xy;dsimp only;omega,by unfold xy;dsimp only;omega,?_⟩
  ·unfold xy;rw [Υ w,B];rfl
  ·unfold xy;dsimp only;have:=congrArg (λl=>l.drop 1) D;simp only [List.drop_take,XJ,Xo,Vz] at this;exact this
theorem FG {b:Nat} (h:H b=mB (mX #[] e)):VG e (tX (mB (pd b 0 nC)) 0 0) [] H:=⟨b,0,#[],rfl,h,by simp,tI _,rfl,by simp⟩
theorem St.queAt (h:St G F As) {i:Nat} (hi:As[i]? =mB (VG e s vs)):RdS F s 1 vs:=by obtain ⟨H,g,_,r⟩:=h.get hi;exact (Rq g).le r
theorem St.quePush {t bytes:Nat} {z:ξ} (T:SlT t e 1 bytes z) {x:Sl} {v:ξ} {ty:TypeId} (h:St G F As) (i:Nat) (hi:As[i]? =mB (VG e s vs)) (A:RdS F x 1 [v]) (W:ak v) (Z:s.len<=400000000000) {K:Sl->Ψ}
  (k:∀B F',St G F' (As.set i (VG e B (vs++[v])))->B.len=s.len+1->K B F'):aH prog (Builtin.append_ #[t,t] ty #[s.v,x.v]) F λr F=>∃B:Sl,r=nV B/\K B F:=by
 have C:x.len=1:=by have:=A.len;rw [Vc] at this;omega
 have hq:=h.queAt hi;have a5:=hq.len;have put:∀{B:Sl} {b:Nat} {P:Obj},VG e B (vs++[v]) (F.set b P)->B.len=s.len+1->(∀a,B.qa5=mB a->a.block=b)->((∃a,s.qa5=mB a/\a.block=b)\/F b=nC)->K B (F.set b P):=λ{B b P} Y X I M=>by
  obtain ⟨H,V,a2,a3,a4⟩:=h.set (A':=VG e B (vs++[v])) hi;have N:H b≠nC\/F b=nC:=by
   rcases M with ⟨a,E,rfl⟩|M
   ·obtain ⟨b0,o0,c0,L,Q,_⟩:=V;rw [L] at E;cases E;exact .inl (by rw [Q];simp)
   ·exact .inr M
  refine k B _ (a4 (PH.set (λ_=>nC) b P) _ ?_ (λx A=> ?_) (λx p A=> ?_) (λx p A hn=> ?_)) X
  ·obtain ⟨b1,o1,c1,L,Q,e3⟩:=Y;have:b1=b:=I _ L;subst this;rw [aq] at Q;exact ⟨b1,o1,c1,L,by rw [aq];exact Q,e3⟩
  ·by_cases D:x=b
   ·rw [D];exact N
   ·rw [aw _ _ D] at A;exact absurd rfl A
  ·by_cases D:x=b
   ·rw [D,aq] at A ⊢;exact A
   ·rw [aw _ _ D] at A;cases A
  ·have D:x≠b:=λD=>by
    subst D;rcases N with h|h
    ·exact h hn
    ·rw [h] at A;cases A
   rw [aw _ _ D];exact A
 refine fc T.ht T.hsz T.hz T.hzs hq A (λw U=>by rw [wa.1 U];exact W) (zJ T.hb (by omega)) (by omega) (λh0 _=>by omega) (λ_ J=> ?_) (λhgt cap b hc M=> ?_)
 ·obtain ⟨H,V,_,a3⟩:=h.get hi;obtain ⟨b,o,g,O,h2,h3,h4,h5,h6⟩:=V;have a0:g.toList.length=g.size:=zA;refine ⟨b,o,g,e,O,a3 _ _ h2,by omega,_,rfl,put ⟨b,o,_,O,aq _ _ _,by rw [dG];exact h3,J,by rw [tT,Vc,h5,C],?_⟩ (by rw [C]) (λa E=>by rw [O] at E;cases E;rfl) (.inl ⟨_,O,rfl⟩)⟩;have U:=jL [v] g.toList (o+s.len*1) (by rw [Vc];omega);rw [show g.toList.toArray=g by simp] at U;rw [U];dsimp only;rw [C,xZ];have L:(List.take (o+s.len) g.toList).drop o=vs:=by rw [<- h6,List.drop_take,YO]
  rw [yb,List.drop_append_of_le_length (by rw [PM];omega),L];rw [<- yb,WJ (by rw [tT,Vc];omega),yY (by rw [tT,Vc];omega)]
 ·refine ⟨_,rfl,put ⟨b,0,_,rfl,aq _ _ _,?_,hc,by rw [tT,Vc];show vs.length+1=s.len+x.len;omega,?_⟩ (by rw [C]) (λa E=>by cases E;rfl) (.inr M)⟩
  ·simp [Builtin.zeroCells,T.hzs];omega
  ·simp only [YV,Zl,Vz,C];rw [WJ (by rw [tT,Vc];omega),yY (by rw [tT,Vc];omega)]
end
theorem Rs:∃b z,SlT 76 3 1 b z:=⟨_,_,underlying76,Yk,Ym,rfl,by decide,by decide⟩
theorem qgG:bv prog 76=mB (nV pk):=by kernel_rfl
theorem Rt:fO prog 215 bg (nV pk):=⟨_,_,underlying215,qgG,Mh⟩
section
variable {G F:PH} {As:List (Ψ)} {k b14 b18 b4 b19 mn mr mt:Nat} {nx:Int->Φ} {T:Int×Int->Tr}
structure CyE (G:PH) (b14 mn b4 mt:Nat) (nx:Int->Φ) (T:Int×Int->Tr):Prop where
 q14:G b14=mB (mX #[.map (mB mn)] 215)
 q4:G b4=mB (mX #[.map (mB mt)] 211)
 nx:∃o mp,G mn=mB o/\dW bg mp o/\∀a,(mp a=nC/\nx a=[])\/∃s,mp a=mB (nV s)/\RL G s (nx a)
 st:∃o mp,G mt=mB o/\dW gx mp o/\iY G T mp
theorem CyE.le {r:PH} (h:CyE G b14 mn b4 mt nx T) (l:G.le r):CyE r b14 mn b4 mt nx T:=by obtain ⟨J,H,⟨o,mp,I,A,w⟩,⟨C,g,D,E,B⟩⟩:=h;refine ⟨l _ _ J,l _ _ H,⟨o,mp,l _ _ I,A,λa=>(w a).imp id λ⟨s,a,b⟩=>⟨s,a,b.le l⟩⟩,⟨C,g,l _ _ D,E,B.le l⟩⟩
theorem CyE.look (h:CyE G b14 mn b4 mt nx T) (l:G.le F) (a:Int):∃s,s9 prog (Instr.lookup 215 (.map (mB mn)) (vi a) nS) F (nV s)/\RL G s (nx a):=by
 obtain ⟨o,mp,C,B,A⟩:=h.nx;have g:=bL (F:=F) Rt (l _ _ C) B a nS;rcases A a with ⟨r,w⟩|⟨s,r,w⟩
 ·rw [r] at g;exact ⟨pk,g,by rw [w];exact RL.nil G⟩
 ·rw [r] at g;exact ⟨s,g,w⟩
theorem CyE.step (h:CyE G b14 mn b4 mt nx T) (l:G.le F) (n:Int×Int):∃w,s9 prog (Instr.lookup 211 (.map (mB mt)) (oc (Bk n)) nS) F (oc w)/\(DV G w (ph (T n))):=by
 obtain ⟨o,mp,D,C,B⟩:=h.st;have g:=bL (F:=F) Rm (l _ _ D) C n nS;rcases B n with ⟨r,A⟩|⟨w,r,A⟩
 ·rw [r] at g;exact ⟨zD,g,by rw [A];exact DV.mk (s:=pk) (d:=ph (qa6 nS)) (RL.nil G)⟩
 ·rw [r] at g;exact ⟨w,g,A⟩
structure Ij (k:Nat) (keys:Φ) (T:Int×Int->Tr) (a:Int) (d:Tr) (l:Φ) (R R':Int->Tr) (ps:Φ):Prop where
 sx:Sxs k R'
 le:Lt' R R'
 snd:∀m c,(R' m).ev c=nZ->(R m).ev c=nZ\/(d.ev c=nZ/\(T (a,m)).ev c=nZ)
 cpl:∀m∈l,∀c,d.ev c=nZ->(T (a,m)).ev c=nZ->(R' m).ev c=nZ
 pu:∀m,R' m≠R m->m∈ps
 mu:mu k keys R'+ps.length<=mu k keys R
theorem Ij.add {keys:Φ} {a:Int} {d:Tr} {l:Φ} {R g:Int->Tr} {D:Φ} (h:Ij k keys T a d l R g D) (H:Sxs k T) (hd:Sx k d) {m:Int} (L:m∈keys):
  (dV g m (ap2 bV d (T (a,m)))≠g->Ij k keys T a d (l++[m]) R (dV g m (ap2 bV d (T (a,m)))) (D++[m]))/\(dV g m (ap2 bV d (T (a,m)))=g->Ij k keys T a d (l++[m]) R g D):=by
 have A:Sx k (ap2 bV d (T (a,m))):=hd.ap2 (o:=bV) (H _);have J:∀c,(ap2 bV d (T (a,m))).ev c=(d.ev c && (T (a,m)).ev c):=(cC hd.1 (H _).1).2;have key:∀i c,(dV g m (ap2 bV d (T (a,m))) i).ev c=nZ↔(g i).ev c=nZ\/(i=m/\d.ev c=nZ/\(T (a,m)).ev c=nZ):=λi c=>by rw [lP h.sx A,J,Bool.or_eq_true_iff,W2,W2,δ]
 have cp:∀i∈l++[m],∀c,d.ev c=nZ->(T (a,i)).ev c=nZ->(dV g m (ap2 bV d (T (a,m))) i).ev c=nZ:=λi hi c r B=>by
  rcases vl.1 hi with hi|hi
  ·exact (key i c).2 (.inl (h.cpl i hi c r B))
  ·have:=wa.1 hi;subst this;exact (key i c).2 (.inr ⟨rfl,r,B⟩)
 have w:=pv h.sx A (n:=m);constructor
 ·intro E;refine ⟨w,h.le.trans (vJ h.sx A),λi c C=> ?_,cp,λi hi=> ?_,?_⟩
  ·rcases (key i c).1 C with C|⟨rfl,r,B⟩
   ·exact h.snd i c C
   ·exact .inr ⟨r,B⟩
  ·by_cases e:i=m
   ·rw [e];simp
   ·have:dV g m (ap2 bV d (T (a,m))) i=g i:=by unfold dV jX;rw [Υ e]
    rw [this] at hi;exact vl.2 (.inl (h.pu i hi))
  ·have r:=(HV h.sx w (vJ h.sx A) keys).2 m L λe=>E (by
    funext i;by_cases I:i=m
    ·rw [I];exact e.symm
    ·unfold dV jX;rw [Υ I])
   have:=h.mu;rw [tT,Vc];omega
 ·intro K;rw [K] at cp;exact ⟨h.sx,h.le,h.snd,cp,h.pu,h.mu⟩
theorem ox {n:Int} {d:Tr} {w:Γ} {R:Int->Tr} {qs:Sl} {q keys:Φ} (hk:k<=6) (E:CyE G b14 mn b4 mt nx T) (a9:G b18=mB (mX #[.map (mB mr)] 170)) (hT:Sxs k T) (hd:Sx k d) (hw:DV G w (ph d)) (hR:Sxs k R)
  (hn:∀m,T (n,m)≠qa6 nS->m∈nx n) (c2:∀m∈nx n,m∈keys) (hl:(nx n).length<=1000000) (hq:q.length<=100000000)
  (h:St G F (mS bg G mr R::pt b19 (mX #[nV qs] 76)::VG 3 qs (q.map vi)::As)):
  ν 115 #[vi n,oc w,pj (mB ⟨b14,0,nC⟩),pj (mB ⟨b18,0,nC⟩),pj (mB ⟨b4,0,nC⟩),pj (mB ⟨b19,0,nC⟩)] F λr L=>∃g R' K I,r=sj #[]/\G.le g/\Vis k keys T n d R R' K/\
   St g L (mS bg g mr R'::pt b19 (mX #[nV I] 76)::VG 3 I ((q++K).map vi)::As):=by
 obtain ⟨_,_,TI⟩:=Rs;refine UF ?_;unfold Od;refine h.newG λb7 G1 F1 l1 q7 _ h=> ?_;have E1:=E.le l1;obtain ⟨sn,c3,a8⟩:=E1.look h.le n;refine ⟨_,rfl,_,ld (h.le _ _ E1.q14) rfl,sn,c3,?_⟩;have d2:=a8.len
 refine bC (vS · n _ _ _ b7 sn _) (nx n).length (λi L=>∃(g:PH) (R':Int->Tr) (K:Φ) (I:Sl),G1.le g/\K.length<=i/\Ij k keys T n d ((nx n).take i) R R' K/\∃Bs,
  St g L ((mS bg g mr R'::pt b19 (mX #[nV I] 76)::VG 3 I ((q++K).map vi)::As)++Bs)) ⟨G1,R,[],qs,au _,tI _,⟨hR,Lt'.refl R,λm c h=> .inl h,λm hm=>(by simp at hm),λm h=>absurd rfl h,tI _⟩,[],
   by rw [yD,yD];exact h.imp 0 rfl λ_ _ hH=>hH.le l1⟩ ?_
 rintro i F2 N hi ⟨G2,Q,K,J,l2,c8,V,Bs,h⟩ next;replace h:St G2 F2 (mS bg G2 mr Q::pt b19 (mX #[nV J] 76)::VG 3 J ((q++K).map vi)::As):=h.pick id (λ_ _ _ _ e=>e) λi hi=>by rw [id,z8 hi]
 unfold vS;refine ⟨λY=> ?_,λd0=> ?_⟩
 ·have Y:i<(nx n).length:=by omega
  refine u9 (a8.le l2) (by decide) (by omega) (by omega) λc9 c5 m hm a6 hc=> ?_;rw [N4] at hm;obtain rfl:c5= #[vi m]:=hc;have b3:=wh hm;refine ⟨m,aF (aO h.le a6) rfl,_,rfl,_,ld (h.le _ _ (l2 _ _ (l1 _ _ a9))) rfl,?_⟩;refine (lQ h (au _) m).mono ?_;rintro _ F3 ⟨G3,u,rfl,hu,l3,h⟩;refine ⟨u,rfl,?_⟩;refine h.var hu.st (λa5 G4 F4 l4 a2 h=> ?_) rfl hu.size;have a4:=aa l2 (aa l3 l4);have E4:=E1.le a4;have a7:=hu.le l4;obtain ⟨v,b6,c6⟩:=E4.step h.le (n,m);refine ⟨u,hu.size,ai (h.le _ _ a2),w,hw.size,ai (h.le _ _ (a4 _ _ q7)),_,rfl,_,ld (h.le _ _ E4.q4) rfl,v,b6,?_⟩;have hx:Sx k (ap2 bV d (T (n,m))):=hd.ap2 (o:=bV) (hT _);have hA:∀{g:PH},G4.le g->ν 109 #[oc w,oc v] g λr Z=>(∃y,r=sj #[oc y,vi 0]/\DV Z y (ph (ap2 bV d (T (n,m)))))/\g.le Z:=
   λl=>(pE hk hd (hT _) (hw.le (aa l1 (aa a4 l))) (c6.le l)).mono λr L ⟨x,a,b,c⟩=>⟨⟨x,a,b⟩,c⟩
  have hO:∀{g:PH} {y:Γ},G4.le g->DV g y (ph (ap2 bV d (T (n,m))))->ν 113 #[oc u,oc y] g λr Z=>(∃y,r=sj #[oc y,vi 0]/\DV Z y (ph (ap2 z9 (Q m) (ap2 bV d (T (n,m))))))/\g.le Z:=
   λl H=>(A8 hk (V.sx m) hx (a7.le l) H).mono λr L ⟨x,a,b,c⟩=>⟨⟨x,a,b⟩,c⟩
  obtain ⟨b0,b8⟩:=V.add hT hd (c2 m b3);have et:=bq hm;have fin:∀{g L:PH} {y w0:Γ} {C:Nat},w0.size=2->G4.le g->DV g y (ph (ap2 z9 (Q m) (ap2 bV d (T (n,m)))))->St g L (pt C (mX w0 33)::mS bg G2 mr Q::pt b19 (mX #[nV J] 76)::VG 3 J ((q++K).map vi)::As)->
    aB L (pd C 0 nC) 2 y λF=>g0 N n (pd b18 0 nC) (mB (pd b4 0 nC)) (mB (pd b19 0 nC)) b7 m a5 sn (i:Int) (mB (pd C 0 nC)) (λr L=>∃g R' K I,r=sj #[]/\G.le g/\Vis k keys T n d R R' K/\
     St g L (mS bg g mr R'::pt b19 (mX #[nV I] 76)::VG 3 I ((q++K).map vi)::As)) F:=λ{g L y w0 C} b5 l H h=>by
   refine h.put0 H.size b5 H.st λF5 h=> ?_;unfold g0;refine ⟨u,hu.size,ai (h.le _ _ (l _ _ a2)),_,rfl,y,H.size,ai (h.ptAt (i:=0) rfl),?_⟩;refine h.runv (nI (a7.le l) H (DE ((V.sx m).small hk))) λG6 F6 A h=>⟨_,rfl,?_⟩;have kk:=(V.sx m).ap2 (o:=z9) hx;have a0:=aa (aa l3 l4) (aa l A);refine ⟨λa1=> ?_,λhe=> ?_⟩
   ·have a1:ap2 z9 (Q m) (ap2 bV d (T (n,m)))≠Q m:=λe=>by rw [e,ε rfl] at a1;cases a1
    refine ⟨_,ld (h.le _ _ (aa l2 a0 _ _ (l1 _ _ a9))) rfl,y,H.size,ai (h.ptAt (i:=0) rfl),?_⟩;obtain ⟨o,mp,m1,m2,m3⟩:=h.mS_at (i:=1) rfl;refine bh Ig m1 m2 m (oc y) λo' b9=> ?_;have h:=h.mS_set 1 rfl (G1:=G6) (S':=dV Q m (ap2 bV d (T (n,m)))) b9 ((m3.le a0).put (H.le A));refine ⟨_,rfl,J,ld (h.ptAt (i:=2) rfl) rfl,?_⟩;have b1:J.len=(q++K).length:=by have:=(h.queAt (i:=3) rfl).len;rw [vb,xZ] at this;exact this.symm
    rw [tT] at b1;refine h.newG λc7 G7 F7 M b2 _ h=> ?_;refine h.quePush TI 3 rfl (RdS.new (h.le _ _ b2) rfl rfl (tI _)) (by simp [ak]) (by omega) λs' F8 h d1=> ?_;refine h.set2 (w':= #[nV s']) (vp rfl) rfl λF9 h=> ?_;unfold pz;rw [aD Y];refine next _ Y ⟨G7,_,K++[m],s',aa l2 (aa a0 M),by rw [tT,Vc];omega,by rw [et];exact b0 λe=>a1 (pF.1 e),[pt C (mX y 33)],?_⟩;rw [<- yb,yO (l₁:=q++K)];exact (h.imp 1 rfl λ_ _ hH=>mS.le hH M).rot
   ·have e:ap2 z9 (Q m) (ap2 bV d (T (n,m)))=Q m:=by
     have:decide (ph (Q m)=ph (ap2 z9 (Q m) (ap2 bV d (T (n,m)))))=nZ:=by simpa using he
     exact (wG (V.sx m).1 kk.1 (ζ this)).symm
    unfold pz;rw [aD Y];refine next _ Y ⟨G6,Q,K,J,aa l2 a0,by omega,by rw [et];exact b8 (pF.2 e),[pt C (mX y 33)],?_⟩;exact (h.imp 1 rfl λ_ _ hH=>mS.le hH a0).rot
  have P:∀{g L:PH} {As:List (Ψ)},G4.le g->St g L As->L.cell (pd b4 0 nC)=mB (.map (mB mt)):=λl h=>ld (h.le _ _ (E4.le l).q4) rfl;have W:∀{g L:PH} {As:List (Ψ)},G4.le g->St g L As->L.row (pd a5 0 nC) u:=λl h=>ai (h.le _ _ (l _ _ a2));refine ⟨?_,?_⟩
  ·refine h.run (hA (au _)) λ_ G5 F5 a3 B h=> ?_;obtain ⟨y,rfl,H⟩:=a3;refine ⟨_,_,rfl,P B h,W B h,?_,?_⟩
   ·refine h.runv (ci H) λG6 F6 A h=>⟨_,rfl,P (aa B A) h,W (aa B A) h,?_,?_⟩
    ·refine h.run (hO (aa B A) (H.le A)) λ_ G7 F7 O M h=> ?_;obtain ⟨z,rfl,U⟩:=O;have X:=aa (aa B A) M;refine ⟨_,_,rfl,P X h,?_,?_⟩
     ·refine h.runv (ci U) λG8 F8 D h=>⟨_,rfl,P (aa X D) h,?_⟩;exact h.new λC F9 h=>fin rfl (aa X D) (U.le D) h
     ·refine h.new λC F8 h=> ?_;exact h.runv (ci U) λG8 F8 D h=>⟨_,rfl,P (aa X D) h,fin rfl (aa X D) (U.le D) h⟩
    ·refine h.new λC F7 h=> ?_;refine h.run (hO (aa B A) (H.le A)) λ_ G7 F7 O M h=> ?_;obtain ⟨z,rfl,U⟩:=O;refine ⟨_,_,rfl,P (aa (aa B A) M) h,?_⟩;exact h.runv (ci U) λG8 F8 D h=>⟨_,rfl,P (aa (aa B A) (aa M D)) h,fin rfl (aa (aa B A) (aa M D)) (U.le D) h⟩
   ·refine h.new λC F6 h=> ?_;refine h.runv (ci H) λG6 F6 A h=>⟨_,rfl,P (aa B A) h,W (aa B A) h,?_⟩;refine h.run (hO (aa B A) (H.le A)) λ_ G7 F7 O M h=> ?_;obtain ⟨z,rfl,U⟩:=O;refine ⟨_,_,rfl,P (aa (aa B A) M) h,?_⟩;exact h.runv (ci U) λG8 F8 D h=>⟨_,rfl,P (aa (aa B A) (aa M D)) h,fin rfl (aa (aa B A) (aa M D)) (U.le D) h⟩
  ·refine h.new λC F5 h=> ?_;refine h.run (hA (au _)) λ_ G5 F5 a3 B h=> ?_;obtain ⟨y,rfl,H⟩:=a3;refine ⟨_,_,rfl,P B h,W B h,?_⟩;refine h.runv (ci H) λG6 F6 A h=>⟨_,rfl,P (aa B A) h,W (aa B A) h,?_⟩;refine h.run (hO (aa B A) (H.le A)) λ_ G7 F7 O M h=> ?_;obtain ⟨z,rfl,U⟩:=O;refine ⟨_,_,rfl,P (aa (aa B A) M) h,?_⟩;exact h.runv (ci U) λG8 F8 D h=>⟨_,rfl,P (aa (aa B A) (aa M D)) h,fin rfl (aa (aa B A) (aa M D)) (U.le D) h⟩
 ·have e:i=(nx n).length:=by omega
  subst e;rw [wV] at V;exact ⟨G2,Q,K,J,rfl,aa l1 l2,⟨V.sx,V.le,V.snd,λm c h1 h2=>V.cpl m (hn m λe=>by rw [e] at h2;cases h2) c h1 h2,V.pu,V.mu⟩,h⟩
end
theorem RL.cut {α:Type} [Mem α] {G:PH} {s:Sl} {l:List α} {n k:Nat} (h:RL G s l) (w:Mem.n α=n) (A:k<=s.len):RL G (xy s n 0 k s.cap) (l.take k):=by subst w;obtain ⟨vs,g,hd⟩:=h;refine ⟨vs.take k,g.take k,?_⟩;have:=hd.cut (l:=0) (r:=k) (m:=s.cap) (by omega) A (by have:=hd.cap;omega);rw [V9,Vz,VV,g.cat_take] at this;exact this
section
variable {F G F1:PH} {b8 b9:Nat} {g:Gr} {c m t s p l f:Sl} {part:Nat} {d:wc} {kc kt kn kp:Nat} {tk:Tk} {pr:Pr}
structure KK (F G:PH) (g:Gr) (c m t s p l f:Sl) (b8:Nat):Prop where
 lF:F.le G
 hT:Tab G
 gs:GS G g c m t s p l f
 q8:G b8=mB (mX (g.arr c m t s p l f) 39)
 mg:MG g
 bd:Bd g 18 10
theorem KK.le {w:PH} (h:KK F G g c m t s p l f b8) (r:G.le w):KK F w g c m t s p l f b8:=⟨aa h.lF r,h.hT.le r,h.gs.le r,r _ _ h.q8,h.mg,h.bd⟩
end
theorem RL.cutD {α:Type} [Mem α] {G:PH} {s:Sl} {l:List α} {n k:Nat} (h:RL G s l) (C:Mem.n α=n) (B:0<n) (A:k<=s.len):RL G (xy s n k s.len s.cap) (l.drop k):=by subst C;have w:=h.len B;obtain ⟨vs,g,hd⟩:=h;refine ⟨vs.drop k,g.drop k,?_⟩;have:=hd.cut (l:=k) (r:=s.len) (m:=s.cap) A (tI _) hd.cap;rw [g.cat_drop,yY (by rw [(g.drop k).cat_len,WL,w];exact tI _)] at this;exact this
theorem UM:∃b z,SlT 61 130 2 b z:=⟨_,_,underlying61,PO,PQ,rfl,by decide,by decide⟩
theorem yu:∀a b:Int×Int,gx a=gx b->a=b:=λa b h=>by
 injection h with h
 have h:=congrArg Array.toList h;simp at h;exact Prod.ext h.1 h.2
theorem yv:∀a b:Int,bg a=bg b->a=b:=λa b h=>by have h:(vi a)=vi b:=h;injection h
section
variable {κ:Type} [DecidableEq κ] {enc:κ->ξ} {G G0 G1 F:PH} {As:List (Ψ)} {m:Nat} {S S':κ->Tr} {K:List κ} {A:Ψ}
theorem St.mA_at (h:St G F As) {i:Nat} (hi:As[i]? =mB A) (r:∀H,A H->mS enc G0 m S H):∃o mp,F m=mB o/\dW enc mp o/\iY G0 S mp:=by obtain ⟨H,w,_,g⟩:=h.get hi;obtain ⟨o,mp,D,B,C⟩:=r H w;exact ⟨o,mp,g _ _ D,B,C⟩
def mG (enc:κ->ξ) (K:List κ) (G:PH) (m:Nat) (S:κ->Tr):Ψ:=λH=>∃o mp,H m=mB o/\yq enc mp o/\iY G S mp/\∀n,mp n≠nC->n∈K
theorem mG.mS {H:PH} (h:mG enc K G m S H):mS enc G m S H:=by obtain ⟨o,mp,r,g,w,_⟩:=h;exact ⟨o,mp,r,g.mapO,w⟩
theorem mG.le {H:PH} (h:mG enc K G0 m S H) (l:G0.le G1):mG enc K G1 m S H:=by obtain ⟨o,mp,B,g,w,r⟩:=h;exact ⟨o,mp,B,g,w.le l,r⟩
theorem St.mG_new (enc:κ->ξ) (K:List κ) (h:St G F (pt m (.map #[] 0)::As)):St G F (mG enc K G m (λ_=>qa6 nS)::As):=
 h.imp (A':=mG enc K G m (λ_=>qa6 nS)) 0 rfl λH _ g=>⟨_,_,g,yq.empty enc,iY.empty G,λ_ h=>absurd rfl h⟩
theorem St.mG_put {L:TypeId} {z:ξ} (U:fO prog L enc z) (E:∀a b,enc a=enc b->a=b) (h:St G F As) (i:Nat) (hi:As[i]? =mB (mG enc K G0 m S)) (N:G0.le G) {n:κ} (r:n∈K) {w:Γ} {t:Tr} (Q:DV G w (ph t)) {C:Ψ}
  (k:∀I,St G I (As.set i (mG enc K G m (jX S n t)))->C I):aH prog (Instr.mapUpdate L (.map (mB m)) (enc n) (oc w)) F λ_ F=>C F:=by
 obtain ⟨H,⟨o,mp,D,O,V,P⟩,X,M,W⟩:=h.set (A':=mG enc K G m (jX S n t)) hi;refine FD U E (M _ _ D) O n (oc w) λJ B=>k _ ?_;refine W (H.set m J) _ ⟨J,_,aq _ _ _,B,(V.le N).put Q,λx g=> ?_⟩ (λx g=> ?_) (λx p g=> ?_) (λx p g r=> ?_)
 ·by_cases e:x=n
  ·rw [e];exact r
  ·rw [Υ e] at g;exact P x g
 ·by_cases e:x=m
  ·rw [e,D];exact .inl (by simp)
  ·rw [aw _ _ e] at g;exact .inl g
 ·by_cases e:x=m
  ·rw [e,aq] at g ⊢;exact g
  ·rw [aw _ _ e] at g ⊢;exact M _ _ g
 ·have e:x≠m:=λe=>by rw [e,D] at r;cases r
  rw [aw _ _ e];exact g
end
section
variable {G G0 F:PH} {As:List (Ψ)} {m:Nat} {k:Nat} {A:Ψ}
theorem FH {S:Int×Int->Tr} (N:∀H,A H->mS gx G0 m S H) (h:St G F (A::As)) (K:G0.le G) (n:Int×Int):
  ν 114 #[.map (mB m),oc (Bk n)] F λr U=>∃C w,r=oc w/\DV C w (ph (S n))/\G.le C/\St C U (A::As):=by
 refine UE ?_;unfold Oc;refine h.new λZ X h=> ?_;refine h.new λb4 P h=> ?_;refine ⟨_,rfl,ai (h.ptAt (i:=1) rfl),?_⟩;obtain ⟨o,mp,O,M,J⟩:=h.mA_at (i:=2) rfl N;have B:=bL (F:=P) Rm O M n nZ;rcases J n with ⟨D,I⟩|⟨w,D,I⟩
 ·rw [D] at B;refine ⟨_,_,B,?_⟩;refine h.new λQ F2 h=> ?_;refine h.put0 (w':=zD) rfl rfl (by simp [ak]) λV h=>⟨λE=>(by cases E),λ_=> ?_⟩;refine (h.call (gy nS)).mono ?_;rintro _ Y ⟨C,⟨w,rfl,g,W⟩,h⟩;refine ⟨w,rfl,?_⟩;refine h.put1 (w':=w) g.size rfl g.st λL h=>⟨w,g.size,ai (h.ptAt (i:=1) rfl),?_⟩;exact ⟨C,w,rfl,by rw [I];exact g,W,h.tail.tail.tail⟩
 ·rw [D] at B;refine ⟨_,_,B,?_⟩;have g:=I.le K;refine h.new λQ F2 h=> ?_;refine h.put0 (w':=w) g.size rfl g.st λV h=>⟨λ_=>⟨w,g.size,ai (h.ptAt (i:=0) rfl),?_⟩,λE=>(by cases E)⟩;refine h.put1 (w':=w) g.size rfl g.st λL h=>⟨w,g.size,ai (h.ptAt (i:=1) rfl),?_⟩;exact ⟨G,w,rfl,g,au _,h.tail.tail.tail⟩
end
section
variable {G F Gn:PH} {g:Gr} {k ms mn ban b4:Nat} {N:Int->Tr} {R:VR}
theorem UN {q p:Sl} (hk:OkK g k) (hN:Sxs k N) (lN:Gn.le G) (hl:∀x∈g.qa0,x.right.length<=1000000) (hp:g.qa0.length<=1000000) (e3:RL G p g.qa0) (qa:∃c n t s p l f,G ban=mB (mX (Y5 g c n t s p l f q) 207)) (hq:RL G q (tM g g.qa0.length))
  (q4:G b4=mB (mX #[.map (mB ms)] 211)) (h:St G F [mG gx (iO g.qa0) G ms (λ_=>qa6 nS),mS bg Gn mn N])
  (fin:∀A J,G.le A->St A J [mG gx (iO g.qa0) A ms (tO N (bI g) 0 g.qa0 λ_=>qa6 nS)]->vO (mB (pd ban 0 nC)) b4 R J):
  Lp (0:Int) F λN v F=>vQ N (pd ban 0 nC) (mB mn) b4 p R v F:=by
 obtain ⟨_,_,T⟩:=UM;obtain ⟨c',n',t',s',p',l',f',qa⟩:=qa;have ep:=e3.len;have eq:=hq.len;rw [ri] at eq
 refine bC (vQ · (pd ban 0 nC) (mB mn) b4 p R) g.qa0.length (λi J=>∃(A:PH) (S:Int×Int->Tr),G.le A/\Sxs k S/\(tO N (bI g) 0 g.qa0 λ_=>qa6 nS)=tO N (bI g) i (g.qa0.drop i) S/\
  St A J [mG gx (iO g.qa0) A ms S,mS bg Gn mn N]) ⟨G,_,au _,λ_=>Sx.qa6 k nS,by rw [Vz],h⟩ ?_
 rintro i F1 N1 hi ⟨G1,S1,l1,g3,M,h⟩ next;unfold vQ;refine ⟨λa7=> ?_,λh6=> ?_⟩
 ·have a7:i<g.qa0.length:=by omega
  refine h.ix (e3.le l1) (by decide) (by omega) (by omega) λa c6 x hx e5 a5=>⟨c6,Mem.len a5,e5,?_⟩;rw [N4] at hx;have d2:=wh hx;have h7:=hl x d2;have c3:g.qa0.drop i=x::g.qa0.drop (i+1):=fG hx;refine h.var (Mem.st a5) (λb6 G2 F2 l2 q6 h=> ?_) rfl (Mem.len a5);obtain ⟨r,n6,l6,rfl,hr,h3,_⟩:=a5;have e1:=aa l1 l2;have a1:=hr.le l2;have er:=a1.len;have f8:=a1.cap;refine ⟨_,ld (h.le _ _ q6) rfl,?_⟩
  refine bC (A7 N1 · (pd ban 0 nC) (mB mn) b4 (i:Int) b6 p r R) x.right.length (λj J=>∃(A:PH) (K:Int×Int->Tr),G2.le A/\Sxs k K/\rp N (bI g i) x 0 x.right S1=rp N (bI g i) x j (x.right.drop j) K/\
   ∃Bs,St A J ([mG gx (iO g.qa0) A ms K,mS bg Gn mn N]++Bs)) ⟨G2,S1,au _,g3,by rw [Vz],[],h.imp 0 rfl λ_ _ hH=>mG.le hH l2⟩ ?_
  rintro j F3 N2 hj ⟨G3,K,l3,Q,I,Bs,h⟩ V;replace h:St G3 F3 [mG gx (iO g.qa0) G3 ms K,mS bg Gn mn N]:=h.pick id (λ_ _ _ _ e=>e) λi hi=>by rw [id,z8 hi]
  unfold A7;refine ⟨λY=> ?_,λi3=> ?_⟩
  ·have Y:j<x.right.length:=by omega
   refine u9 (a1.le l3) (by decide) (by omega) (by omega) λa8 c8 X c4 d0 e7=>⟨c8,Mem.len e7,aO h.le d0,?_⟩;rw [N4] at c4;obtain rfl:c8=X.arr:=e7;have f4:x.right.drop j=X::x.right.drop (j+1):=fG c4;refine h.var (by simp [ak]) (λb8 G4 F4 l4 q8 h=>⟨_,ld (h.le _ _ q8) rfl,λB=> ?_,λB=> ?_⟩) rfl rfl
   ·have B:X.t=nZ:=B;unfold nB;rw [aD Y];refine V _ Y ⟨G4,K,aa l3 l4,Q,?_,[],h.imp 0 rfl λ_ _ hH=>mG.le hH l4⟩;rw [I,f4];show rp N (bI g i) x (j+1) _ (if X.t=nZ then K else _)=_;rw [Χ B]
   ·have B:X.t=nS:=B;have c5:=aa l3 l4;have D:=c5 _ _ q6;have e2:=a1.le c5;have e6:i64.wrap ((j:Int)+1)=((j+1:Nat):Int):=aD Y;refine ⟨_,ld (h.le _ _ D) rfl,by omega,by omega,by rw [N4];omega,_,ld (h.le _ _ D) rfl,?_⟩;dsimp only;rw [e6];refine ⟨by omega,by rw [N4];omega,f8,?_⟩;simp only [N4];obtain ⟨v1,d4,g4⟩:=e2.cut (n:=2) rfl (k:=j) (by omega);obtain ⟨v2,e9,g1⟩:=e2.cutD (n:=2) rfl (by decide) (k:=j+1) (by omega);refine h.new λg8 F5 h=> ?_;have h:=h.imp (A':=own (tX (mB (pd g8 0 nC)) 0 0) 130 2 []) 0 rfl λH _ hH=>jR hH;have b3:(xy r 2 0 j r.cap).len=j:=by unfold xy;dsimp only;omega
    have f1:(xy r 2 (j+1) r.len r.cap).len=r.len - (j+1):=rfl;refine h.app0 T (g4.le h.le) d4.st (by rw [b3];show 0+j<=_;omega) λs1 F6 h d3=> ?_;rw [zr] at h;refine ⟨ld (h.le _ _ D) rfl,ld (h.le _ _ D) rfl,?_⟩;have d3:s1.len=0+j:=by rw [d3,b3]
    refine h.app0 T (g1.le h.le) e9.st (by rw [f1];omega) λs2 F7 h i1=> ?_;refine ⟨ld (h.le _ _ D) rfl,ld (h.le _ _ D) rfl,?_⟩;obtain ⟨G5,l5,g7,h⟩:=h.pinO;have Z:RL G5 s2 (x.right.eraseIdx j):=by rw [List.eraseIdx_eq_take_drop_succ];refine ⟨v1++v2,(d4.le l5).append (e9.le l5),?_⟩;rw [be];exact g7
    have f5:(x.right.eraseIdx j).length<=1000000:=by have:=List.length_eraseIdx_le x.right j;omega
    have i4:=Z.len;have b0:=aa e1 (aa c5 l5);refine ⟨_,by rw [aJ];exact ld (h.le _ _ (b0 _ _ qa)) rfl,?_⟩;refine u9 (hq.le b0) (by decide) (by omega) (by omega) λa9 c9 dd E c7 a6=>⟨c9,Mem.len a6,aO h.le c7,?_⟩;rw [N4] at E;have E:dd=ph (bI g i):=by unfold tM at E;rw [yr,XK a7] at E;exact (yV E).symm
    have a6:DV G5 c9 (ph (bI g i)):=by rw [<- E];exact a6
    refine (ug h.swap (aa lN b0) hk.le hN (hk.prs i) a6 Z f5).mono ?_;rintro _ F8 ⟨G6,u,rfl,hu,l6,h⟩;have h:=h.swap;refine ⟨u,rfl,?_⟩;refine h.new λa2 F9 h=> ?_;refine h.put0 (w':=u) hu.size rfl hu.st λi5 h=> ?_;obtain ⟨j1,_⟩:=cJ hN (x.right.eraseIdx j) (hk.prs i);obtain ⟨c2,_⟩:=ia hN (hk.prs i) x.right j;have h5:=aa l5 l6
    refine bC (A6 N1 N2 · (pd ban 0 nC) (mB mn) b4 (i:Int) b6 b8 a2 p r (j:Int) s2 R) (x.right.eraseIdx j).length (λe J=>∃(A:PH) (y:Γ),G6.le A/\
     DV A y (ph (if ((x.right.eraseIdx j).take e).any (·.t)=nZ then qa6 nS else fj N (bI g i) (x.right.eraseIdx j)))/\St A J [pt a2 (mX y 33),mG gx (iO g.qa0) G3 ms K,mS bg Gn mn N]) ⟨G6,u,au _,by rw [Va];exact hu,h⟩ ?_
    rintro e h1 N3 he ⟨G7,y,l7,hy,h⟩ W;unfold A6;have a4:=aa l6 l7;refine ⟨λO=> ?_,λh8=> ?_⟩
    ·have O:e<(x.right.eraseIdx j).length:=by omega
     refine u9 (Z.le a4) (by decide) (by omega) (by omega) λh4 f3 sz e8 a3 b5=>⟨f3,Mem.len b5,aO h.le a3,?_⟩;rw [N4] at e8;obtain rfl:f3=sz.arr:=b5;have et:=bq e8;refine h.var (by simp [ak]) (λh2 G8 g2 l8 f6 h=>⟨_,ld (h.le _ _ f6) rfl,λC=> ?_,λC=> ?_⟩) rfl rfl
     ·have C:sz.t=nZ:=C;refine (h.call (gy nS)).mono ?_;rintro _ g9 ⟨G9,⟨w,rfl,hw,l9⟩,h⟩;refine ⟨w,rfl,?_⟩;refine h.put0 (w':=w) hw.size hy.size hw.st λg6 h=> ?_;unfold vP;rw [aD O];refine W _ O ⟨G9,w,aa l7 (aa l8 l9),?_,h⟩;rw [et,List.any_append,List.any_cons,C,Bool.true_or,Bool.or_true,Χ rfl];exact hw
     ·have C:sz.t=nS:=C;unfold vP;rw [aD O];refine W _ O ⟨G8,y,aa l7 l8,?_,h⟩;rw [et,List.any_append,List.any_cons,C,List.any_nil,YC,YC];exact hy.le l8
    ·have he:e=(x.right.eraseIdx j).length:=by omega
     subst he;rw [wV] at hy;have hy:DV G7 y (ph (nD N (bI g i) x.right j)):=hy;have L:=aa l4 (aa l5 a4);have go:∀{A J:PH} {Bs:List (Ψ)},G7.le A->St A J ([mG gx (iO g.qa0) A ms (dV K (x.left,X.i) (nD N (bI g i) x.right j)),mS bg Gn mn N]++Bs)->nB N1 N2 (pd ban 0 nC) (mB mn) b4 (i:Int) b6 p r (j:Int) R J:=λ{A J Bs} l h=>by unfold nB;rw [e6];refine V _ Y ⟨A,_,aa l3 (aa L l),pv Q c2,?_,Bs,h⟩;rw [I,f4];show rp N (bI g i) x (j+1) _ (if X.t=nZ then K else _)=_;rw [B,Υ YW]
     unfold If;obtain ⟨sd,ey,_⟩:=id hy;have g5:=aa (aa l3 L) (au _) _ _ q6;refine ⟨_,ld (h.ptAt (i:=0) rfl) (by rw [ey];rfl),λh0=> ?_,λh0=> ?_⟩
     ·refine ⟨_,ld (h.le _ _ g5) rfl,_,ld (h.le _ _ (aa l5 a4 _ _ q8)) rfl,?_⟩;refine h.var (by simp [ak]) (λj0 G8 g2 l8 b9 h=> ?_) rfl rfl;have f9:=aa b0 (aa a4 l8);have b7:=f9 _ _ q4;have key:(x.left,X.i)∈iO g.qa0:=XX.2 ⟨x,d2,xR.2 ⟨X,wh c4,rfl⟩⟩;refine ⟨_,ld (h.le _ _ b7) rfl,_,rfl,ai (h.le _ _ b9),_,ld (h.le _ _ b7) rfl,_,rfl,ai (h.le _ _ b9),y,hy.size,ai (h.ptAt (i:=0) rfl),?_⟩;refine (FH (λH hH=>mG.mS hH) h.swap (aa L l8) (x.left,X.i)).mono ?_;rintro _ g9 ⟨G9,w,rfl,hw,l9,h⟩;have h:=h.swap;have U:=l9 _ _ b9;have d1:=l9 _ _ b7;refine ⟨w,rfl,ai (h.ptAt (i:=0) rfl),ai (h.le _ _ U),ld (h.le _ _ d1) rfl,?_⟩;refine h.run (P:=λr' A=>∃z,r'=sj #[oc z,vi 0]/\DV A z (ph (ap2 z9 (K (x.left,X.i)) (nD N (bI g i) x.right j)))) ((A8 hk.le (Q _) c2 hw (hy.le (aa l8 l9))).mono λr J ⟨x,a,b,c⟩=>⟨⟨x,a,b⟩,c⟩) λ_ i2 g6 e4 a0 h=> ?_;obtain ⟨z,rfl,hz⟩:=e4;refine ⟨_,_,rfl,ai (h.le _ _ (a0 _ _ U)),ld (h.le _ _ (a0 _ _ d1)) rfl,?_⟩;refine h.runv (ci hz) λj2 h9 b1 h=>⟨_,rfl,ai (h.le _ _ (b1 _ _ (a0 _ _ U))),ld (h.le _ _ (b1 _ _ (a0 _ _ d1))) rfl,?_⟩;have b2:=aa l8 (aa l9 (aa a0 b1));refine h.mG_put Rm yu 1 rfl (aa L b2) key (hz.le b1) λi0 h=> ?_;exact go (Bs:=[pt a2 (mX y 33)]) b2 h.rot
     ·have e0:nD N (bI g i) x.right j=qa6 nS:=(iZ c2.1).1 (by simpa using h0);refine go (Bs:=[pt a2 (mX y 33)]) (au _) ?_;rw [e0,kO Q];exact (h.imp 1 rfl λ_ _ hH=>mG.le hH L).rot
  ·have hj:j=x.right.length:=by omega
   subst hj;rw [XY] at I;have I:rp N (bI g i) x 0 x.right S1=K:=I;unfold Ie;rw [aD a7];refine next _ a7 ⟨G3,K,aa e1 l3,Q,?_,h⟩;rw [M,c3];show tO N (bI g) (i+1) _ (rp N (bI g i) x 0 x.right S1)=_;rw [I]
 ·have e:i=g.qa0.length:=by omega
  subst e;rw [XY] at M;have M:(tO N (bI g) 0 g.qa0 λ_=>qa6 nS)=S1:=M;refine fin G1 F1 l1 ?_;rw [M];exact h.hd
end
theorem ib {α:Type} {F:PH} (L:(α->Ω)->α->Ω) (n:Nat) (Inv:Nat->α->Ψ) (w:α) (D:Inv 0 w F)
  (step:∀(k:Nat) (x:α) (F:PH) (N:α->Ω),k<=n->Inv k x F->(∀h g,k<n->Inv (k+1) h g->N h ((k+1:Nat):Int) g)->L N x (k:Int) F):
  ∃(I:Nat->α->Ω) (m:Nat),I m w (0:Int) F/\∀m x v F,I m x v F->L (λy z F=>∃A,A<m/\I A y z F) x v F:=by
 refine ⟨λm x i g=>∃k:Nat,i=k/\k<=n/\m=n - k/\Inv k x g,n,⟨0,rfl,by omega,rfl,D⟩,?_⟩;rintro m x i g ⟨k,rfl,C,rfl,hi⟩;exact step k x g _ C hi λh B E r=>⟨n - (k+1),by omega,k+1,rfl,by omega,rfl,r⟩
theorem St.ownPut {G F:PH} {As:List (Ψ)} {s:Sl} {e n:Nat} {vs:Ξ} (h:St G F As) (i:Nat) (hi:As[i]? =mB (own s e n vs)) {a:Addr} (A:s.qa5=mB a) {j:Nat} {v:ξ} (V:j<vs.length) {K:Ψ}
  (k:∀E,St G E (As.set i (own s e n (vs.set j v)))->K E):rj F (a.add j) v K:=by
 obtain ⟨H,M,U,J,Q⟩:=h.set (A':=own s e n (vs.set j v)) hi;rcases M with ⟨rfl,_⟩|⟨b,w,D,B,O,C,L,P⟩
 ·cases A
 ·rw [D] at A;cases A;have N:s.len*n<=s.cap*n:=W1 _ C;rw [aJ,yp];refine ⟨w,e,J _ _ B,rfl,by show j<_;omega,?_⟩;refine tP (k _ (Q (H.set b (mX (w.setIfInBounds j v) e)) _ (.inr ⟨b,_,D,aq _ _ _,by rw [Array.size_setIfInBounds,O],C,by rw [YA,L],?_⟩) (λx g=> ?_) (λx p g=> ?_) λx p g I=> ?_))
  ·rw [Array.toList_setIfInBounds,<- P,List.take_set]
  ·by_cases r:x=b
   ·rw [r,B];exact .inl (by simp)
   ·rw [aw _ _ r] at g;exact .inl g
  ·by_cases r:x=b
   ·rw [r,aq] at g ⊢;exact g
   ·rw [aw _ _ r] at g ⊢;exact J _ _ g
  ·have r:x≠b:=λr=>by rw [r,B] at I;cases I
   rw [aw _ _ r];exact g
theorem Ik {s:Sl} {e n k:Nat} {vs:Ξ} {H:PH} (h:own s e n vs H) (r:k<=s.len):own (xy s n 0 k s.cap) e n (vs.take (k*n)) H:=by
 rcases h with ⟨rfl,rfl⟩|⟨b,g,w,D,E,G,B,C⟩
 ·have:k=0:=Nat.le_zero.1 r;subst this;exact .inl ⟨rfl,by simp⟩
 ·refine .inr ⟨b,g,?_,D,E,by show k - 0<=s.cap - 0;omega,?_,?_⟩
  ·unfold xy;by_cases A:s.cap=0
   ·rw [Χ A];exact w
   ·rw [Υ A,w,V9];rfl
  ·have:=W1 n r;rw [PM,B];show min (k*n) _=(k - 0)*n;rw [VV];omega
  ·show g.toList.take ((k - 0)*n)=_;rw [VV,<- C,List.take_take,YY (W1 n r)]
instance:Mem (Nat×List Sy) where
 n:=2
 rep F x c:=∃r:Sl,c= #[vi (x.1:Int),r.v]/\RL F r x.2
 len h:=by obtain ⟨r,rfl,_⟩:=h;rfl
 le hl h:=by obtain ⟨r,h1,h2⟩:=h;exact ⟨r,h1,h2.le hl⟩
 st h:=by obtain ⟨r,rfl,_⟩:=h;simp [ak,nV]
def ru (g:Gr) (fs:List (Nat×List Dtr)):List (Nat×List Sy):=(fs.map λx=>(x.1,x.2.map (XA g))).reverse
theorem nE (g:Gr) (x:Nat×List Dtr) (fs:List (Nat×List Dtr)):ru g (x::fs)=ru g fs++[(x.1,x.2.map (XA g))]:=by unfold ru;simp
theorem eV (g:Gr) (fs:List (Nat×List Dtr)):(ru g fs).length=fs.length:=by unfold ru;simp
theorem qgH:∃b z,SlT 219 223 2 b z:=⟨_,_,underlying219,qdE,qeU,rfl,by decide,by decide⟩
theorem qgI:aG prog 81=nZ:=by kernel_rfl
section
variable {F G:PH} {g:Gr} {c:Dtr}
theorem FI {v:Γ} (M:GV F v g) (Q:Gy g c):ν 118 #[oc v,vi c.root.pr,vi c.root.tk] F λr O=>r=oc (XA g c).arr/\F.le O:=by
 obtain ⟨cs,n,t,s,p,l,f,rfl,I⟩:=M;refine qe0 ?_;unfold PU;refine (St.start F).newG λb3 G1 F1 D q3 _ h=> ?_;refine h.new λZ F2 h=> ?_;have C:=I.le D;cases c with
 |lf V L to=>refine ⟨λ_=> ?_,λE=>absurd (by show (-1:Int)<0;decide) E⟩;refine h.put0 (w':= #[oY nZ,vi V]) rfl rfl (by simp [ak]) λU h=>⟨_,rfl,ai (h.ptAt (i:=0) rfl),rfl,aa D h.le⟩
 |nd B L to ks=>obtain ⟨_,_,x,H,_⟩:=Q;obtain ⟨K,X,N⟩:=bG H;have Y:=I.p.len;refine ⟨λE=>absurd K (by show ¬(0:Int)<=B;exact Int.not_le.2 E),λ_=> ?_⟩;refine ⟨p,ld (h.le _ _ q3) rfl,?_⟩;refine u9 C.p (by decide) K (by show B<_;omega) λa cc J A w P=> ?_;obtain rfl:J=x:=yV (A.symm.trans N);obtain ⟨r,n2,W,rfl,_⟩:=P;refine ⟨_,aN (aO h.le w) (i:=1) rfl,?_⟩;refine h.put0 (w':= #[oY nS,vi J.left]) rfl rfl (by simp [ak]) λU h=>⟨_,rfl,ai (h.ptAt (i:=0) rfl),?_,aa D h.le⟩;show oc _=oc (⟨nS,((V5 g B).map Pr.left).getD 0⟩:Sy).arr;rw [H];rfl
theorem Il {U W i:Nat} {t:Sl} {cs n K s p l f:Sl} {L:List Nod} (q3:F W=mB (mX #[t.v] 43)) (q2:F U=mB (mX (g.arr cs n K s p l f) 39)) (O:GS F g cs n K s p l f) (P:RL F t L) (N:L[i]? =mB c.root) (Q:Gy g c):
  ν 81 #[vi (i:Int),Pp W,Pp U] F λr F'=>r=sj #[vi c.root.pr,vi c.root.tk,oY nZ]/\F.le F':=by
 have et:=P.len;have hi:=(N6.1 N).1;have a0:=O.t.len;have ep:=O.p.len;refine aaa ?_;unfold Xu;refine ⟨_,rfl,t,ld q3 rfl,?_⟩;refine u9 P (by decide) (by omega) (by omega) λa Z x' B C hc=> ?_;rw [N4,N] at B;obtain rfl:=yV B;obtain rfl:Z=c.root.arr:=hc;refine ⟨_,rfl,C,?_⟩;refine (St.start F).var (by simp [ak]) (λb7 G1 F1 l1 q7 h=> ?_);have w:=h.le _ _ q7;have D:=aa l1 h.le;refine ⟨_,ld w rfl,?_⟩;cases c with
 |lf J H to=>obtain ⟨X,f2,E,M⟩:=Q;refine ⟨λ_=>⟨_,ld w rfl,_,ld w rfl,λ_=>⟨_,ld w rfl,_,rfl,K,ld (D _ _ q2) rfl,λ_=>⟨_,ld w rfl,λ_=>⟨_,ld w rfl,_,ld w rfl,?_,D⟩,λA=>absurd E A⟩,λA=>absurd (by show J<_;omega) A⟩,λA=>absurd X A⟩,λA=>absurd rfl A⟩;show sj #[_,_,oY (decide (H<to))]=_;rw [ε M];rfl
 |nd Y H to ks=>
  obtain ⟨E,M,x,I,_⟩:=Q;obtain ⟨V,x1,x2⟩:=bG I;refine ⟨λA=> ?_,λ_=>⟨_,ld w rfl,_,ld w rfl,_,ld w rfl,λ_=>⟨_,ld w rfl,_,rfl,p,ld (D _ _ q2) rfl,λ_=>⟨_,ld w rfl,λ_=>⟨_,ld w rfl,λ_=>⟨_,ld w rfl,_,ld w rfl,?_,D⟩,λA=>absurd E A⟩,λA=>absurd rfl A⟩,λA=>absurd (by show Y<_;omega) A⟩,λA=>absurd V A⟩⟩
  ·subst A;exact absurd V (by decide)
  ·show sj #[_,_,oY (decide (H<=to))]=_;rw [ε M]
end
end
open Go.RowKit Go.Shelf
section
attribute [local go_sem] Oper.semAt_some
def ry {α:Type} (f:Nat->α) (k:Nat):List α:=(List.range k).map f
theorem nF {α:Type} (f:Nat->α) (k:Nat):ry f (k+1)=ry f k++[f k]:=by unfold ry;simp [List.range_succ]
theorem Im {α:Type} (f:Nat->α) (k:Nat):(ry f k).length=k:=by unfold ry;simp
def ZV (e:Ev) (F:PH) (A B:World):Prop:=Sat e A F->Sat e B F
theorem jx {i:Nat} {ks:List Dtr}:cQ i ks ks.length=i+1+xT ks:=by unfold cQ;rw [wV]
theorem C8 {T m c:Dtr} {i k:Nat} (h:bP T i=mB m) (g:m.kids[k]? =mB c):(VM 0 T)[cQ i m.kids k]? =mB (cQ i m.kids (k+1)):=by rw [EP (jS h g),gP g,yp]
theorem pG {T m:Dtr} {i:Nat} (h:bP T i=mB m):(VM 0 T)[i]? =mB (cQ i m.kids m.kids.length):=by rw [EP h,jx,cY];congr 1;omega
theorem pH {i:Nat} {ks:List Dtr} (k:Nat):cQ i ks k<=i+1+xT ks:=by have:=congrArg xT (WY k ks);rw [ly] at this;unfold cQ;omega
theorem pI {i k:Nat} {ks:List Dtr} (g:k<ks.length):cQ i ks k<i+1+xT ks:=by have h:=gP (i:=i) (N5 g);have:=pH (i:=i) (ks:=ks) (k+1);have:=gr ks[k];omega
theorem In {e:Ev} {w W:World} {F:PH} (h:Sat e w F) (r:Below w.heap.size w W):Sat e W F:=by have key:∀b o,w.heap[b]? =mB o->W.heap[b]? =mB o:=λb o g=>(r.block b (XZ.1 g).1).trans g;exact ⟨r.os.trans h.os,r.tape.trans h.tape,r.output.trans h.output,λb o g=>key b o (h.heap b o g),λb o g=>⟨(h.frame b o g).1,key b o (h.frame b o g).2⟩⟩
abbrev Vp (T:Dtr):Φ:=(VM 0 T).map Int.ofNat
section
variable {e:Ev} {F1:PH} {T m:Dtr} {i b2 b3:Nat} {s:Sl}
theorem i6 (g:RL F1 s (Vp T)) {j v:Nat} (h:(VM 0 T)[j]? =mB v):∃b o,s.qa5=mB ⟨b,o,nC⟩/\(j:Int)<(s.len:Int)/\F1.cell ⟨b,o+j,nC⟩=mB (vi (v:Int)):=by
 have A:(Vp T)[j]? =mB (v:Int):=by unfold Vp;rw [yr,h];rfl
 have H:=g.len;have G:=(N6.1 A).1;obtain ⟨a,c,B,E,F⟩:=g.get (by decide) A;obtain rfl:c= #[vi (v:Int)]:=F;have w:=aF E rfl;obtain ⟨b,o,D,hF⟩:∃b o,a=⟨b,o,nC⟩/\True:=by obtain ⟨vs,I,C⟩:=g;obtain ⟨b,o,r,_⟩:=C.cells (by omega);rw [B] at r;exact ⟨b,o,yV r,trivial⟩
 subst D;refine ⟨b,o,B,by omega,?_⟩;rw [show (Mem.n Int)=1 from rfl,xZ,aJ] at w;exact w
set_option maxRecDepth 100000 in
set_option maxHeartbeats 2000000 in
theorem Io (F:Fence) (n:Nat) (K:F.fn 84) (M:F.round=nC) (hn:1<=n) (l:Nat) (G:bP T i=mB m) (hT:szN T<=2000000) (q2:F1 b2=mB (mX #[s.v] 76)) (q3:F1 b3=mB (mX #[vi (i:Int)] 3)) (V:RL F1 s (Vp T)) {α:Type} (enc:α->Nat) (f:Nat->α) (hf:∀k,k<m.kids.length->enc (f k)=cQ i m.kids k) (J Y:List α->World->Prop)
  (hY:∀(pre:List α) (x:α) W,J pre W->pre.length<m.kids.length->YieldAt F (n - 1) prog l #[vi ((enc x:Nat):Int)] W λen r=>
   (en=.returned (oY nZ)/\J (pre++[x]) r/\ZV e F1 W r)\/(en=.returned (oY nS)/\Y (pre++[x]) r))
  (W:World) (X:Sat e W F1) (h0:J [] W):
  CallsIn F n prog 84 #[.func (.yield l) #[] #[],pj (mB ⟨b3,0,nC⟩),pj (mB ⟨b2,0,nC⟩)] W λen r=>(∃v,en=.returned v)/\
   ((∃ys,ys=ry f m.kids.length/\J ys r)\/(∃pre,(∃k,k<=m.kids.length/\pre=ry f k)/\Y pre r)):=by
 have a5:=eC G;have a6:W.cell? ⟨b3,0,nC⟩=mB (vi (i:Int)):=X.cell (ld q3 rfl);refine callsIn_of_wp func84 rfl K ?_ M;simp only [ntmps84,XH,wo,WZ,Nat.reduceAdd,Nat.reduceSub,Array.replicate_succ,Array.replicate_zero,List.push_toArray,YV,zr,zH];have hw:i64.wrap ((i:Int)+1)=((i+1:Nat):Int):=aD (n:=3000000) (by omega) (by omega)
 gi_wp2
 gi_loopw [4] (λp wr=>∃k:Nat,k<=m.kids.length/\p=vi ((cQ i m.kids k:Nat):Int)/\J (ry f k) wr/\Sat e wr F1)
  (λp _=>3000000 - (intOf p).toNat)
 case atStart=>exact ⟨0,yM _,by simp [cQ,dH],h0,X⟩
 case round=>
  obtain ⟨k,hk,rfl,A,H⟩:=hrel;have c3:wr.cell? ⟨b3,0,nC⟩=mB (vi (i:Int)):=H.cell (ld q3 rfl);have a4:=pH (i:=i) (ks:=m.kids) k;have L:=sub_le G;rw [cY] at L;obtain ⟨b,o,hb,w,P⟩:=i6 V (pG G);have a3:wr.cell? ⟨b,o+i,nC⟩=mB (vi ((cQ i m.kids m.kids.length:Nat):Int)):=H.cell P;obtain ⟨N,len,cap⟩:=s;obtain rfl:N=_:=hb;have c2:wr.cell? ⟨b2,0,nC⟩=mB (tU (mB ⟨b,o,nC⟩) len cap):=H.cell (ld q2 rfl);have a0:i<len:=by have:(i:Int)<(len:Int):=w;omega
  have O:=jx (i:=i) (ks:=m.kids);by_cases g:k<m.kids.length
  ·have a7:=pI (i:=i) g;obtain ⟨fn,Z,E,a1,hy,hR⟩:=hY _ (f k) wr A (by rw [Im];exact g);rw [hf k g] at hy
   gi_wp2
   refine hR.mono ?_;rintro en U (⟨rfl,I,R⟩|⟨rfl,C⟩)
   ·have h:=R H;have d2:U.cell? ⟨b2,0,nC⟩=mB (tU (mB ⟨b,o,nC⟩) len cap):=h.cell (ld q2 rfl);obtain ⟨b',o',Q,D,B⟩:=i6 V (C8 G (N5 g));cases Q;have a2:cQ i m.kids k<len:=by have:((cQ i m.kids k:Nat):Int)<(len:Int):=D;omega
    have d3:U.cell? ⟨b,o+cQ i m.kids k,nC⟩=mB (vi ((cQ i m.kids (k+1):Nat):Int)):=h.cell B;have e1:=gP (i:=i) (N5 g);have e2:=gr m.kids[k];have e3:=pH (i:=i) (ks:=m.kids) (k+1)
    gi_wp2
    go_roundw
    case rel=>exact ⟨k+1,by omega,by simp [e1],by rw [nF];exact I,h⟩
    case measure=>simp [intOf];omega
   ·gi_wp2
    refine bodyPost_ret (results_none rfl _ _ _) rfl ?_;exact ⟨⟨_,rfl⟩,.inr ⟨_,⟨k+1,by omega,(nF _ _).symm⟩,C⟩⟩
  ·obtain rfl:k=m.kids.length:=by omega
   gi_wp2
   go_end0
   exact ⟨⟨_,rfl⟩,.inl A⟩
theorem Be (l:World) (E:Sat e l F1) (G:bP T i=mB m) (g:szN T<=2000000) (q2:F1 b2=mB (mX #[s.v] 76)) (q3:F1 b3=mB (mX #[vi (i:Int)] 3)) (w:RL F1 s (Vp T)) {α:Type} (enc:α->Nat) (f:Nat->α) (A:∀k,k<m.kids.length->enc (f k)=cQ i m.kids k) {n:Nat} (B:1<=n):
  SeqStopsK Fence.wide n prog 84 #[pj (mB ⟨b3,0,nC⟩),pj (mB ⟨b2,0,nC⟩)] (λx:α=> #[vi ((enc x:Nat):Int)]) (ZV e F1) (λC=>C=ry f m.kids.length) (λpre=>∃k,k<=m.kids.length/\pre=ry f k) m.kids.length l:=λr J H W F _ _ h D=>
 Io Fence.wide n trivial rfl B r G g q2 q3 w enc f A J H h W (In E F) D
end
section
variable {F G:PH} {g:Gr} {L:List Nod} {T:Δ} {N:Nat}
def Yn (g:Gr) (L:List Nod) (T:Δ) (N:Nat) (es:Sl) (G0:PH) (top:Bool) (j:Nat) (st:Sl) (F':PH):Prop:=
 ∃(G':PH) (fs:List (Nat×List Dtr)) (vs:List Γ) (E:Φ),G0.le G'/\St G' F' [own st 223 2 (uX vs),own es 3 1 (E.map vi)]/\bT G' (ru g fs) vs/\(st.len=fs.length/\fs.length<=j)/\E.length=N/\
  (∀q v,q<j->(∀x∈fs,q≠x.1)->T[q]? =mB v->E[q]? =mB (v:Int))/\(if j=0 then fs=[] else WC g L T N j fs)/\(top=nZ->∀x ks r,fs=(x,ks)::r->ks≠[])
theorem C9 {fs:List (Nat×List Dtr)} {vs:List Γ} {x:Nat} {ks:List Dtr} (h:bT G (ru g ((x,ks)::fs)) vs):∃(us:List Γ) (r:Sl),vs=us++[#[vi (x:Int),r.v]]/\RL G r (ks.map (XA g))/\bT G (ru g fs) us/\us.length=fs.length:=by rw [nE] at h;have C:=h.length;rw [tT,eV,Vc] at C;have w:=h.take fs.length;rw [WJ (by rw [eV];exact tI _),yY (by rw [eV];exact tI _)] at w;obtain ⟨c,A,⟨r,rfl,B⟩,_⟩:=h.get (i:=fs.length) (x:=(x,ks.map (XA g))) (by rw [Vm (by rw [eV];exact tI _),eV,Yi];rfl);refine ⟨vs.take fs.length,r,?_,B,w,by rw [PM];omega⟩;have:=(WY fs.length vs).symm;rw [XG (by omega),Yq (by omega),(N6.1 A).2] at this;exact this
theorem Ip {b1:Nat} {A:Sl} {N1:Sl->Ω} {R:VR} {j:Nat} {F2:PH} {st:Sl} (hN:N<=2000000) (hj:j<N) (a5:T.length=N) (G0:PH) (h:Yn g L T N A G0 nS (j+1) st F2) {n0:Int}
  (next:∀P F',Yn g L T N A G0 nZ (j+1) P F'->N1 P ((j+1:Nat):Int) F'):
  ∃(I2:Nat->Sl->Ψ) (m2:Nat),I2 m2 st F2/\∀m2 w F,I2 m2 w F->Co N1 (λO F=>∃m',m'<m2/\I2 m' O F) b1 A (j:Int) n0 R w F:=by
 refine ⟨λm s F'=>m=s.len/\Yn g L T N A G0 nS (j+1) s F',st.len,⟨rfl,h⟩,?_⟩;rintro m s F3 ⟨rfl,G',B,vs,E,lG,C,hr,⟨hl,W⟩,Z,hq,hf,_⟩;have ej:i64.wrap ((j:Int)+1)=((j+1:Nat):Int):=aD (n:=N) hj (by omega);rw [Υ (by omega)] at hf;unfold Co;have D:(∀x Y r,B=(x,Y)::r->Y≠[])->xd N1 b1 A n0 (j:Int) s R F3:=λht=>by unfold xd;rw [ej];exact next s F3 ⟨G',B,vs,E,lG,C,hr,⟨hl,W⟩,Z,hq,by rw [Υ (by omega)];exact hf,λ_=>ht⟩
 refine ⟨λh0=> ?_,λh0=>D ?_⟩
 ·cases B with
  |nil=>rw [WZ] at hl;omega
  |cons y B=>
   obtain ⟨x,Y⟩:=y;rw [wo] at hl W;obtain ⟨us,r,rfl,a6,M,b0⟩:=C9 hr;have a8:=Ck hf;have ew:i64.wrap ((s.len:Int) - 1)=((B.length:Nat):Int):=by rw [aL (by omega)];omega
   have J:RdS F3 s 2 (uX (us++[#[vi (x:Int),r.v]])):=(C.ownAt (i:=0) rfl).1.rd;obtain ⟨a,o,hb,_⟩:=J.cells (by omega)
   have I:=J.row hb (B.length*2) #[vi (x:Int),r.v] (by
    rw [be,List.drop_left' (by
     have:=M.cat_len;rw [eV] at this
     exact this),cG]
    rfl)
   rw [ew];refine ⟨_,hb,by omega,by omega,r,?_,?_⟩
   ·rw [N4];exact aN I (i:=1) rfl
   have U:=a6.len;rw [vb] at U;refine ⟨λhz=> ?_,λhz=>D ?_⟩
   ·have a7:Y=[]:=VT (by omega);subst a7;obtain ⟨hT,a4⟩:=NJ hf;have X:x<N:=by rw [<- a5];exact (N6.1 hT).1
    refine ⟨_,hb,by omega,by omega,x,?_,?_⟩
    ·rw [N4];exact aF I rfl
    have V:RdS F3 A 1 (E.map vi):=(C.ownAt (i:=1) rfl).1.rd;have Q:=V.len;rw [vb,Z] at Q;obtain ⟨a2,o2,a0,_⟩:=V.cells (by omega);refine ⟨_,a0,by omega,by omega,?_⟩;rw [ej,N4,xZ];refine C.ownPut 1 rfl a0 (by rw [vb,Z];exact X) λF4 h4=> ?_;refine ⟨by omega,by omega,?_,_,?_,rfl,G',B,us,E.set x ((j+1:Nat):Int),lG,?_,M,⟨?_,by omega⟩,by rw [YA];exact Z,λq v a3 a1 K=> ?_,by rw [Υ (by omega)];exact a4,λh=>by cases h⟩
    ·rw [N4];have:=J.cap;omega
    ·rw [N4];show B.length - 0<s.len;omega
    ·have h5:=h4.imp (A':=own (xy s 2 0 (pc ((B.length:Nat):Int)) s.cap) 223 2 (uX us)) 0 rfl λH _ hH=>by
      have:=Ik hH (k:=B.length) (by omega);rw [N4]
      rw [be,List.take_left' (by
       have:=M.cat_len;rw [eV] at this
       exact this)] at this
      exact this
     rw [List.map_set];exact h5
    ·rw [N4];exact VV _
    ·by_cases e:q=x
     ·subst e;rw [X3 (by rw [Z];exact X)];rw [hT] at K;cases K;rfl
     ·rw [Zj (Ne.symm e)];refine hq q v a3 (λy hy=> ?_) K;rcases tQ.1 hy with rfl|hy
      ·exact e
      ·exact a1 y hy
   ·intro x' a9 r' he hk;cases he;subst hk;exact hz (by rw [U];rfl)
 ·intro x Y r he;subst he;rw [wo] at hl;exact absurd (by omega) h0
end
section
variable {F G:PH} {g:Gr} {L:List Nod} {T:Δ} {N:Nat}
theorem Da {w:Sl} {U:Nat} {O:Sl->Ω} {R:VR} {j:Nat} {F2 C J:PH} {st r:Sl} {c:Dtr} {fs:List (Nat×List Dtr)} {vs:List Γ} {E:Φ} {n0:Int} (Q:N<=2000000) (P:j<N) (K:T.length=N)
  (lG:J.le C) (h:St C F2 [own st 223 2 (uX vs),own w 3 1 (E.map vi)]) (V:bT C (ru g fs) vs) (hl:st.len=fs.length) (W:fs.length<=j) (hE:E.length=N) (hq:∀q v,q<j->(∀x∈fs,q≠x.1)->T[q]? =mB v->E[q]? =mB (v:Int))
  (Z:WC g L T N (j+1) ((j,c.kids)::fs)) (hr:RL C r (c.kids.map (XA g)))
  (next:∀A M,Yn g L T N w J nZ (j+1) A M->O A ((j+1:Nat):Int) M):xe O U w st (j:Int) n0 r R F2:=by
 obtain ⟨_,_,TO⟩:=qgH;unfold xe;refine ⟨rfl,?_⟩;refine h.push0 TO (c:= #[vi (j:Int),r.v]) rfl (by simp [ak,nV]) (by omega) λs' G2 F3 H h D=> ?_;refine Ip Q P K J ⟨G2,(j,c.kids)::fs,vs++[#[vi (j:Int),r.v]],E,aa lG H,?_,?_,⟨by rw [D,hl,wo],by rw [wo];omega⟩,hE,λq v a0 B I=> ?_,by rw [Υ (by omega)];exact Z,λh=>by cases h⟩ next
 ·rw [be,cG];exact h
 ·rw [nE];exact (V.le H).append (.cons ⟨r,rfl,hr.le H⟩ .nil)
 ·have X:=B (j,c.kids) (by simp);dsimp only at X;exact hq q v (by omega) (λy Y=>B y (by simp [Y])) I
theorem Db {A:Sl} {W:Nat} {Z:Sl->Ω} {R:VR} {j:Nat} {F2 J G0:PH} {st:Sl} {c:Dtr} {fs:List (Nat×List Dtr)} {vs:List Γ} {E:Φ} {n0:Int} {w:Γ} {p:Sl} (U:N<=2000000) (Q:j<N) (D:T.length=N)
  (q1:J W=mB (mX w 175)) (hw:w[5]? =mB p.v) (hp:RL J p g.qa0) (hc:Gy g c)
  (lG:G0.le J) (h:St J F2 [own st 223 2 (uX vs),own A 3 1 (E.map vi)]) (X:bT J (ru g fs) vs) (hl:st.len=fs.length) (C:fs.length<=j) (hE:E.length=N) (hq:∀q v,q<j->(∀x∈fs,q≠x.1)->T[q]? =mB v->E[q]? =mB (v:Int))
  (hf:WC g L T N (j+1) ((j,c.kids)::fs))
  (next:∀B Y,Yn g L T N A G0 nZ (j+1) B Y->Z B ((j+1:Nat):Int) Y):xf Z W A st (j:Int) c.root.pr n0 R F2:=by
 unfold xf;cases c with
 |lf tk K to=>refine ⟨λO=>absurd O (by show ¬(0:Int)<=-1;decide),λ_=> ?_⟩;exact Da (c:=.lf tk K to) U Q D lG h X hl C hE hq hf (RL.nil _) next
 |nd V K to ks=>obtain ⟨_,_,x,hx,hr⟩:=hc;obtain ⟨x0,x1,x2⟩:=bG hx;have ep:=hp.len;refine ⟨λ_=> ?_,λO=>absurd x0 O⟩;refine ⟨p,ld (h.le _ _ q1) hw,?_⟩;refine u9 hp (by decide) x0 (by show V<_;omega) λa cc x' M I P=> ?_;obtain rfl:x'=x:=yV (M.symm.trans x2);obtain ⟨r,n2,l2,rfl,H,_⟩:=P;refine ⟨r,aN (aO h.le I) (i:=2) rfl,?_⟩;exact Da (c:=.nd V K to ks) U Q D lG h X hl C hE hq hf (by rw [hr] at H;exact H) next
theorem Mb {K:Sl} {b1:Nat} {N1:Sl->Ω} {R:VR} {j:Nat} {F2 O G0:PH} {st:Sl} {c:Dtr} {fs J:List (Nat×List Dtr)} {vs:List Γ} {E:Φ} {n0:Int} {cs n t s p l f:Sl} {u v:ξ} (hN:N<=2000000) (hj:j<N) (X:T.length=N)
  (q1:O b1=mB (mX #[cs.v,n.v,vi g.fam.2,t.v,s.v,p.v,vi g.start,l.v,f.v,u,v] 175)) (hs:GS O g cs n t s p l f) (hc:dY g c)
  (lG:G0.le O) (h:St O F2 [own st 223 2 (uX vs),own K 3 1 (E.map vi)]) (hv:bT O (ru g fs) vs) (hl:st.len=fs.length) (H:fs.length<=j) (hE:E.length=N) (hq:∀q v,q<j->(∀x∈fs,q≠x.1)->T[q]? =mB v->E[q]? =mB (v:Int))
  (a8:(fs=[]/\J=[])\/∃x ks rest,fs=(x,c::ks)::rest/\J=(x,ks)::rest) (hf:WC g L T N (j+1) ((j,c.kids)::J))
  (next:∀V F',Yn g L T N K G0 nZ (j+1) V F'->N1 V ((j+1:Nat):Int) F'):sY N1 b1 K st (j:Int) c.root.pr c.root.tk n0 R F2:=by
 unfold sY;have hg:GV O (g.arr cs n t s p l f) g:=⟨cs,n,t,s,p,l,f,rfl,hs⟩;refine ⟨g.arr cs n t s p l f,rfl,fZ (h.le _ _ q1) rfl,?_⟩;refine h.runv (FI hg hc.here) λG2 F3 l2 h=>⟨_,rfl,?_⟩;refine h.var (by simp [ak]) (λb9 G3 F4 l3 q9 h=> ?_);have A:=aa l2 l3;have U:=A _ _ q1;have P:=hs.le A;have a0:=hv.le A;rcases a8 with ⟨rfl,rfl⟩|⟨x,ks,rest,rfl,rfl⟩
 ·refine ⟨λM=> ?_,λ_=>Db hN hj X U rfl P.p hc.here (aa lG A) h a0 hl H hE hq hf next⟩;rw [hl] at M;exact absurd M (by decide)
 ·rw [wo] at hl H;have ew:i64.wrap ((st.len:Int) - 1)=((rest.length:Nat):Int):=by rw [aL (by omega)];omega
  rw [ew];refine ⟨λ_=> ?_,λM=>absurd (by omega) M⟩;refine ⟨_,rfl,ai (h.le _ _ q9),?_⟩;obtain ⟨us,r,rfl,C,a1,a9⟩:=C9 a0;have Q:RdS F4 st 2 (uX (us++[#[vi (x:Int),r.v]])):=(h.ownAt (i:=0) rfl).1.rd;obtain ⟨a,o,Y,_⟩:=Q.cells (by omega);have w:(uX us).length=rest.length*2:=by have:=a1.cat_len;rwa [eV] at this
  have D:=Q.row Y (rest.length*2) #[vi (x:Int),r.v] (by
   rw [be,List.drop_left' w,cG]
   rfl)
  rw [N4];refine ⟨_,Y,by omega,by omega,r,aN D (i:=1) rfl,?_⟩;have a5:=C.len;rw [vb,wo] at a5;refine u9 C (by decide) (Vr _) (by omega) λa2 c2 y I B a4=> ?_;rw [show (pc 0)=0 from rfl] at I B;rw [xV,X2] at I;cases I;obtain rfl:c2=(XA g c).arr:=a4;refine ⟨_,rfl,aO h.le B,_,λF=>NL _ _ F,λM=> ?_,λ_=> ?_⟩
  ·rw [ε rfl] at M;cases M
  refine ⟨_,Y,by omega,by omega,r,aN D (i:=1) rfl,by omega,C.cap,_,Y,by omega,by omega,?_⟩;have ea:od (od (pd a o nC) (rest.length*2)) 1=(pd a o nC).add (rest.length*2+1):=by rw [aJ,aJ,aJ,V7]
  dsimp only;rw [ea];have a3:(uX (us++[#[vi (x:Int),r.v]])).length=rest.length*2+2:=by rw [be,cG,tT,w];rfl
  refine h.ownPut 0 rfl Y (by rw [a3];omega) λF5 h=> ?_;have Z:=RL.cutD C (n:=2) (k:=1) rfl (by decide) (by omega);rw [xV,Xo,Vz] at Z;refine Db (fs:=(x,ks)::rest) (vs:=us++[#[vi (x:Int),(xy r 2 1 r.len r.cap).v]]) hN hj X U rfl P.p hc.here (aa lG A) ?_ ?_ (by rw [wo];exact hl) (by rw [wo];exact H) hE (λq v a7 W a6=>hq q v a7 (λy I=> ?_) a6) hf next
  ·rw [be,cG,List.set_append_right _ _ (by omega),w,show rest.length*2+1 - rest.length*2=1 by omega] at h;rw [be,cG];exact h
  ·rw [nE];exact a1.append (.cons ⟨_,rfl,Z⟩ .nil)
  ·rcases tQ.1 I with rfl|I
   ·exact W (x,ks) (by simp)
   ·exact W y (by simp [I])
end
attribute [local go_sem] Oper.semAt_some
theorem dR {e:Ev} {w:World} {F:PH} (h:Sat e w F) (o:Obj):Sat e (w.alloc o) (F.set w.heap.size o):=h.push o
theorem pJ {e:Ev} {w:World} {F:PH} {b i:Nat} {c:Γ} {t:TypeId} {v:ξ} (h:Sat e w F) (A:F b=mB (mX c t (0,0))):Sat e (w.setCell ⟨b,i,nC⟩ v) (F.set b (mX (c.setIfInBounds i v) t (0,0))):=by
 have g:=h.heap _ _ A;have:w.setCell ⟨b,i,nC⟩ v={w with heap:=(w.setCell ⟨b,i,nC⟩ v).heap}:=rfl;rw [this];refine h.modify A _ ?_ (λB r=> ?_)
 ·simp [World.setCell,YP,g]
 ·simp only [World.setCell,YP];rw [Υ (λh=>r h.symm)]
theorem eW {e:Ev} {w:World} {F G:PH} (h:Sat e w G) (r:F.le G):Sat e w F:=⟨h.os,h.tape,h.output,λb o g=>h.heap b o (r b o g),λb o g=>⟨aU r (h.frame b o g).1,(h.frame b o g).2⟩⟩
theorem gF {e:Ev} {w w':World} {F:PH} {row:Option Nat} {B:Nat} (h:Sat e w F) (D:∀b o,F b=mB o\/e.fr b=mB o->b<B) (A:w.grownBy w' row) (E:∀r,row=mB r->B<=r):Sat e w' F:=by
 have key:∀b o,F b=mB o\/e.fr b=mB o->w.heap[b]? =mB o->w'.heap[b]? =mB o:=λb o g C=>by refine (A.block b (XZ.1 C).1 λG=> ?_).trans C;have:=E b G.symm;have:=D b o g;omega
 exact ⟨A.os.trans h.os,A.tape.trans h.tape,A.output.trans h.output,λb o g=>key b o (.inl g) (h.heap b o g),λb o g=>⟨(h.frame b o g).1,key b o (.inr g) (h.frame b o g).2⟩⟩
theorem ul {e:Ev} {w:World} {F:PH} (h:Sat e w F):∀b o,F b=mB o\/e.fr b=mB o->b<w.heap.size:=λb o g=>g.elim (λg=>h.lt g) λg=>(XZ.1 (h.frame b o g).2).1
theorem fw {e:Ev} {w:World} {F:PH} {b i:Nat} {c:Γ} {t:TypeId} {fr:Nat×Nat} {v:ξ} (h:Sat e w F) (r:F b=mB (mX c t fr)) (g:c[i]? =mB v):w.cell? ⟨b,i,nC⟩=mB v:=h.cell ((av r).trans g)
theorem jy {e:Ev} {w:World} {F:PH} {b i:Nat} {c:Γ} {t:TypeId} (h:Sat e w F) (g:F b=mB (mX c t (0,0))):w.frozen? ⟨b,i,nC⟩=nS:=by have r:=h.heap _ _ g;simp [World.frozen?,r]
def dZ:Int->Bool->List Nod->Int->Bool
 |at_,ex,[],to=>if ex then decide (at_=to) else decide (at_<=to)
 |at_,ex,n::l,to=> !((ex && decide (n.fr≠at_)) || decide (n.fr<at_)) && dZ n.to (decide (0<=n.pr)) l to
def bU (F:PH) (n0:Nat) (t s:Sl) (i:Int) (r:Bool) (at_:Int) (ex:Bool):PH:=
 (((((F.set n0 (mX #[t.v] 43)).set (n0+1) (mX #[oY r] 4)).set (n0+2) (mX #[vi at_] 3)).set (n0+3) (mX #[oY ex] 4)).set (n0+4) (mX #[s.v] 76)).set (n0+5) (mX #[vi i] 3)
def W9 (F:PH) (n0:Nat) (s:Sl) (i:Int):PH:=(F.set (n0+4) (mX #[s.v] 76)).set (n0+5) (mX #[vi i] 3)
theorem UO (F:PH) (g:Nat) (s:Sl) (i:Int):W9 F g s i (g+4)=mB (mX #[s.v] 76):=by unfold W9;rw [aw _ _ (by omega),aq]
theorem UP (F:PH) (g:Nat) (s:Sl) (i:Int):W9 F g s i (g+5)=mB (mX #[vi i] 3):=by unfold W9;rw [aq]
theorem Iq {F:PH} {g:Nat} {s:Sl} {i:Int} (h:∀b,g<=b->F b=nC):F.le (W9 F g s i):=λb o r=>by
 have A:¬g<=b:=λw=>by rw [h b w] at r;cases r
 unfold W9;rw [aw _ _ (by omega),aw _ _ (by omega)];exact r
theorem yw {F:PH} {w:Nat} {t s:Sl} {i:Int} (h:∀b,w<=b->F b=nC) {r:Bool} {at_:Int} {ex:Bool}:(W9 F w s i).le (bU F w t s i r at_ ex):=λb o g=>by
 unfold W9 at g;unfold bU;by_cases B:b=w+5
 ·rw [B,aq] at g ⊢;exact g
 rw [aw _ _ B] at g ⊢;by_cases A:b=w+4
 ·rw [A,aq] at g ⊢;exact g
 rw [aw _ _ A] at g ⊢;have D:¬w<=b:=λC=>by rw [h b C] at g;cases g
 rw [aw _ _ (by omega),aw _ _ (by omega),aw _ _ (by omega),aw _ _ (by omega)];exact g
section
variable {F:PH} {n0:Nat} {t s:Sl} {i at_:Int} {r ex:Bool}
theorem Dc:bU F n0 t s i r at_ ex n0=mB (mX #[t.v] 43):=by unfold bU;rw [aw _ _ (by omega),aw _ _ (by omega),aw _ _ (by omega),aw _ _ (by omega),aw _ _ (by omega),aq]
theorem eM:bU F n0 t s i r at_ ex (n0+1)=mB (mX #[oY r] 4):=by unfold bU;rw [aw _ _ (by omega),aw _ _ (by omega),aw _ _ (by omega),aw _ _ (by omega),aq]
theorem pK:bU F n0 t s i r at_ ex (n0+2)=mB (mX #[vi at_] 3):=by unfold bU;rw [aw _ _ (by omega),aw _ _ (by omega),aw _ _ (by omega),aq]
theorem lR:bU F n0 t s i r at_ ex (n0+3)=mB (mX #[oY ex] 4):=by unfold bU;rw [aw _ _ (by omega),aw _ _ (by omega),aq]
theorem lS (h:∀b,n0<=b->F b=nC):F.le (bU F n0 t s i r at_ ex):=aa (Iq h) (yw h)
theorem Ir (h:∀b,n0<=b->F b=nC) {b:Nat} {o:Obj} (g:bU F n0 t s i r at_ ex b=mB o):b<n0+6:=by
 unfold bU at g;by_cases w:b<n0+6
 ·exact w
 ·rw [aw _ _ (by omega),aw _ _ (by omega),aw _ _ (by omega),aw _ _ (by omega),aw _ _ (by omega),aw _ _ (by omega),h b (by omega)] at g;cases g
theorem Bf (v:Int):(bU F n0 t s i r at_ ex).set (n0+2) (mX #[vi v] 3)=bU F n0 t s i r v ex:=by
 funext b;unfold bU PH.set;by_cases g:b=n0+2
 ·subst g;simp
 ·simp [g]
theorem Bg (v:Bool):(bU F n0 t s i r at_ ex).set (n0+3) (mX #[oY v] 4)=bU F n0 t s i r at_ v:=by
 funext b;unfold bU PH.set;by_cases g:b=n0+3
 ·subst g;simp
 ·simp [g]
theorem rz (v:Bool):(bU F n0 t s i r at_ ex).set (n0+1) (mX #[oY v] 4)=bU F n0 t s i v at_ ex:=by
 funext b;unfold bU PH.set;by_cases g:b=n0+1
 ·subst g;simp
 ·simp [g]
end
theorem rA {at_ to:Int} {ex:Bool} {n:Nod} {l:List Nod} (h:ex=nZ->n.fr=at_) (g:¬n.fr<at_):dZ at_ ex (n::l) to=dZ n.to (decide (0<=n.pr)) l to:=by
 rw [dZ];cases ex with
 |true=>simp [h rfl]
 |false=>simp [g]
theorem yx {at_ to:Int} {ex:Bool} {n:Nod} {l:List Nod} (h:(ex=nZ/\n.fr≠at_)\/n.fr<at_):dZ at_ ex (n::l) to=nS:=by
 rw [dZ];rcases h with ⟨r,g⟩|h
 ·simp [r,g]
 ·simp [h]
theorem rB {A B:World} (h:KeepsOthers A B):KeepsOthers A B.drew:=⟨h.size,h.same⟩
section
variable {e:Ev} {F:PH} {n0:Nat} {t s:Sl} {i at_:Int} {r ex:Bool} {W:World}
theorem jz (h:Sat e W (bU F n0 t s i r at_ ex)) (to:Int) (b:Bool) (o:Obj):Sat e ((((W.setCell ⟨n0+1+1,0,nC⟩ (vi to)).setCell ⟨n0+1+1+1,0,nC⟩ (oY b)).alloc o).drew) (bU F n0 t s i r to b):=by have w:=pJ (i:=0) (v:=vi to) h pK;rw [show (#[vi at_]:Γ).setIfInBounds 0 (vi to)= #[vi to] from rfl,Bf] at w;have g:=pJ (i:=0) (v:=oY b) w lR;rw [show (#[oY ex]:Γ).setIfInBounds 0 (oY b)= #[oY b] from rfl,Bg] at g;exact (eW (dR g o) (ae o g.fresh)).drawn _
theorem yy (h:Sat e W (bU F n0 t s i r at_ ex)) (o:Obj):Sat e ((W.setCell ⟨n0+1,0,nC⟩ (oY nS)).alloc o) (bU F n0 t s i nS at_ ex):=by have g:=pJ (i:=0) (v:=oY nS) h eM;rw [show (#[oY r]:Γ).setIfInBounds 0 (oY nS)= #[oY nS] from rfl,rz] at g;exact eW (dR g o) (ae o g.fresh)
theorem yz (h:Sat e W (bU F n0 t s i r at_ ex)) (b:Bool) {D B:Nat} (G:W.heap[D]? =mB (.deferred (mB []))) (C:B<=D) (A:∀{r at_ ex},∀b o,bU F n0 t s i r at_ ex b=mB o\/e.fr b=mB o->b<B):
  ((W.setCell ⟨n0+1,0,nC⟩ (oY b)).drew.putObj D (.deferred nC)).cell? ⟨n0+1,0,nC⟩=mB (oY b)/\Sat e ((W.setCell ⟨n0+1,0,nC⟩ (oY b)).drew.putObj D (.deferred nC)) (bU F n0 t s i b at_ ex):=by
 have w:=pJ (i:=0) (v:=oY b) h eM;rw [show (#[oY r]:Γ).setIfInBounds 0 (oY b)= #[oY b] from rfl,rz] at w;have g:=(gF (w.drawn (W.drawn+1)) (B:=B) A (grownBy_putObj' _ D (.deferred nC)) λr E=>by cases E;exact C);exact ⟨fw g eM rfl,g⟩
end
def yA (T:Dtr) (x:{x:Nat // x<szN T}):Nod:=(vq T)[x.1]'x.2
section
variable {e:Ev} {F:PH} {T m:Dtr} {i:Nat} {s t:Sl}
theorem Mc (h:Fence) (n:Nat) (g:h.fn 50) (r:h.round=nC) (a:Θ) (len cap:Nat) (j:Int) (w:World):
  CallsIn h n prog 50 #[tU a len cap,vi j] w λe w'=>e=.returned (.func (.func 84) #[] #[pj (mB ⟨w.heap.size+1,0,nC⟩),pj (mB ⟨w.heap.size,0,nC⟩)])/\w'=(w.alloc (mX #[tU a len cap] 76)).alloc (mX #[vi j] 3):=by
 refine callsIn_of_wp func50 rfl g ?_ r;simp only [ntmps50,XH,wo,WZ,Nat.reduceAdd,Nat.reduceSub,Array.replicate_succ,Array.replicate_zero,List.push_toArray,YV,zr,zH]
 gi_wp2
 go_ret
 exact ⟨rfl,rfl⟩
set_option maxRecDepth 100000 in
set_option maxHeartbeats 4000000 in
theorem qhi (w:World) (hw:Sat e w F) {bt H lt J bs os L cs:Nat} (hm:bP T i=mB m) (hT:szN T<=2000000) (hs:RL F ⟨mB ⟨bs,os,nC⟩,L,cs⟩ (Vp T)) (ht:RL F ⟨mB ⟨bt,H,nC⟩,lt,J⟩ (vq T)):
  CallsIn Fence.wide 3 prog 77 #[tU (mB ⟨bt,H,nC⟩) lt J,tU (mB ⟨bs,os,nC⟩) L cs,vi (i:Int)] w λen w'=>en=.returned (oY (dZ m.root.fr nZ (m.kids.map Dtr.root) m.root.to))/\Sat e w' F:=by
 refine callsIn_of_wp_marks func77 rfl trivial ?_ rfl;simp only [ntmps77,XH,wo,WZ,Nat.reduceAdd,Nat.reduceSub,Array.replicate_succ,Array.replicate_zero,List.push_toArray,YV,zr,zH];have a4:=eC hm;have b6:i<lt:=by have:=ht.len;have:lt=szN T:=this;omega
 have hn:=gQ hm;obtain ⟨a0,c0,g1,Z,g3⟩:=ht.get (by decide) hn;cases g1;obtain rfl:c0=m.root.arr:=g3;have b0:w.cell? ⟨bt,H+i*4+2,nC⟩=mB (vi m.root.fr):=hw.cell (by have:=aN Z (i:=2) rfl;rwa [aJ,aJ] at this);have b5:bt<w.heap.size:=by obtain ⟨o,ho,_⟩:=cells_of_cell b0;exact (XZ.1 ho).1
 gi_wp2
 refine ⟨trivial,(Mc Fence.wide 2 trivial rfl _ _ _ _ _).mono ?_⟩;rintro en w' ⟨rfl,rfl⟩
 gi_wp2
 have V:=dR (dR (dR (dR (dR (dR hw (mX #[tU (mB ⟨bt,H,nC⟩) lt J] 43)) (mX #[oY nS] 4)) (mX #[vi m.root.fr] 3)) (mX #[oY nZ] 4)) (mX #[tU (mB ⟨bs,os,nC⟩) L cs] 76)) (mX #[vi (i:Int)] 3);simp only [World.size_alloc] at V;have V:Sat e _ (bU F w.heap.size ⟨mB ⟨bt,H,nC⟩,lt,J⟩ ⟨mB ⟨bs,os,nC⟩,L,cs⟩ i nS m.root.fr nZ):=V;have C:∀b,w.heap.size<=b->F b=nC:=λb P=>by
  cases e1:F b with
  |none=>rfl
  |some o=>have:=hw.lt e1;omega
 generalize a9:((((((w.alloc (mX #[tU (mB ⟨bt,H,nC⟩) lt J] 43)).alloc (mX #[oY nS] 4)).alloc (mX #[vi m.root.fr] 3)).alloc (mX #[oY nZ] 4)).alloc (mX #[tU (mB ⟨bs,os,nC⟩) L cs] 76)).alloc (mX #[vi (i:Int)] 3))=W0 at V ⊢;have b4:W0.heap.size=w.heap.size+6:=by rw [<- a9];simp only [World.size_alloc]
 have O:∀{r at_ ex},∀b o,bU F w.heap.size ⟨mB ⟨bt,H,nC⟩,lt,J⟩ ⟨mB ⟨bs,os,nC⟩,L,cs⟩ i r at_ ex b=mB o\/e.fr b=mB o->b<W0.heap.size:=λb o P=>P.elim (λP=>by have:=Ir C P;omega) λP=>ul V b o (.inr P);have hB:=ul V;have U:∀{r at_ ex},(W9 F w.heap.size ⟨mB ⟨bs,os,nC⟩,L,cs⟩ i).le (bU F w.heap.size ⟨mB ⟨bt,H,nC⟩,lt,J⟩ ⟨mB ⟨bs,os,nC⟩,L,cs⟩ i r at_ ex):=yw C;have a8:F.le (W9 F w.heap.size ⟨mB ⟨bs,os,nC⟩,L,cs⟩ i):=Iq C;generalize b2:w.heap.size=E at*;have N:∀k,k<=m.kids.length->(ry (λk=>if h:cQ i m.kids k<szN T then (⟨cQ i m.kids k,h⟩:{x:Nat // x<szN T}) else ⟨i,a4⟩) k).map (yA T)=(m.kids.take k).map Dtr.root:=λk=>by
  induction k with
  |zero=>intro _;rfl
  |succ k ih=>intro hk;have a2:k<m.kids.length:=hk;have h1:=pI (i:=i) a2;have h2:=sub_le hm;rw [cY] at h2;have h3:=gQ (jS hm (N5 a2));rw [nF,yO,ih (by omega),Wj,N5 a2,yO,dif_pos (by omega)];congr 1;unfold yA;rw [List.map_singleton];simp only [Option.toList_some,xV,List.map_nil];congr 1;exact (N6.1 h3).2
 refine wpIn_rangeFunc_ownF (α:={x:Nat // x<szN T}) rfl (by decide) (gf:=84) (lb:= #[pj (mB ⟨E+1+1+1+1+1,0,nC⟩),pj (mB ⟨E+1+1+1+1,0,nC⟩)]) rfl trivial (enters_of func84 (by kernel_rfl) rfl)
  (Be W0 (eW V U) hm hT (UO F E _ i) (UP F E _ i) (hs.le a8) (λx=>x.1) (λk=>if h:cQ i m.kids k<szN T then ⟨cQ i m.kids k,h⟩ else ⟨i,a4⟩) (λk hk=> ?hf) (by decide))
  (λh k s=>k (h s)) (λW r o o' hr ho h1 h2 g=>gF g (λb o P=>hB b o (P.elim (λP=> .inl (U b o P)) .inr)) (grownBy_putObj' W r o') λr' Q=>by cases Q;exact hr) (Below.refl _ _) (λ_=>rfl)
  (λI W=>∃at_ ex,Sat e W (bU F E ⟨mB ⟨bt,H,nC⟩,lt,J⟩ ⟨mB ⟨bs,os,nC⟩,L,cs⟩ i nS at_ ex)/\∀l,dZ m.root.fr nZ (I.map (yA T)++l) m.root.to=dZ at_ ex l m.root.to)
  (λc I W=>c=.ret/\(∃at_ ex,Sat e W (bU F E ⟨mB ⟨bt,H,nC⟩,lt,J⟩ ⟨mB ⟨bs,os,nC⟩,L,cs⟩ i nS at_ ex))/\∀l,dZ m.root.fr nZ (I.map (yA T)++l) m.root.to=nS)
  ?hI ?hIx ⟨_,_,V,λl=>rfl⟩
  (λx=>{tmps:= #[tU (mB ⟨bt,H,nC⟩) lt J,tU (mB ⟨bs,os,nC⟩) L cs,vi (i:Int),pj (mB ⟨E,0,nC⟩),undef,undef,pj (mB ⟨E+1,0,nC⟩),pj (mB ⟨E+1+1,0,nC⟩),pj (mB ⟨E+1+1+1,0,nC⟩),vi (x.1:Int),undef,tU (mB ⟨bt,H,nC⟩) lt J,vi (i:Int),pj (mB ⟨bt,H+i*4,nC⟩),pj (mB ⟨bt,H+i*4+2,nC⟩),vi m.root.fr,tU (mB ⟨bs,os,nC⟩) L cs,vi (i:Int),.func (.func 84) #[] #[pj (mB ⟨E+1+1+1+1+1,0,nC⟩),pj (mB ⟨E+1+1+1+1,0,nC⟩)],vi (x.1:Int),undef,undef,undef,undef,undef,undef,undef,undef,undef,undef,undef,undef,undef,undef,undef,undef,undef,undef,undef,undef,undef,undef,undef,undef,undef,undef,undef,undef,undef,undef,undef,undef,undef,undef,undef,undef,undef],defers:=[]}) ?assign ?body ?done ?stop
 case assign=>
  intro l x W K X
  gi_wp2
  exact X
 case hf=>
  have h1:=pI (i:=i) hk;have h2:=sub_le hm;rw [cY] at h2;rw [dif_pos (by omega)]
 case hI=>
  rintro I A B row ⟨at_,ex,g,R⟩ hg hr;exact ⟨at_,ex,gF g O hg λr Q=>(hr r Q).1,R⟩
 case hIx=>
  rintro c I A B row ⟨h1,⟨at_,ex,g⟩,R⟩ hg hr;exact ⟨h1,⟨at_,ex,gF g O hg λr Q=>(hr r Q).1⟩,R⟩
 case body=>
  rintro l I x W ⟨at_,ex,g,R⟩ b1;have b3:=x.2;have a3:x.1<lt:=by have:=ht.len;have:lt=szN T:=this;omega
  have a7:(vq T)[x.1]? =mB (yA T x):=N5 x.2;have G:∀l,dZ m.root.fr nZ ((I++[x]).map (yA T)++l) m.root.to=dZ at_ ex (yA T x::l) m.root.to:=λl=>by rw [yO,yb];exact R _
  generalize yA T x=nd at*;obtain ⟨a1,c1,g1,Z,g3⟩:=ht.get (by decide) a7;cases g1;obtain rfl:c1=nd.arr:=g3;have M:=lS (t:=⟨mB ⟨bt,H,nC⟩,lt,J⟩) (s:=⟨mB ⟨bs,os,nC⟩,L,cs⟩) (i:=(i:Int)) (r:=nS) (at_:=at_) (ex:=ex) C;have d0:W.cell? ⟨bt,H+x.1*4,nC⟩=mB (vi nd.pr):=g.cell (aK M (by have:=aN Z (i:=0) rfl;rwa [aJ,aJ] at this));have d1:W.cell? ⟨bt,H+x.1*4+1,nC⟩=mB (vi nd.tk):=g.cell (aK M (by have:=aN Z (i:=1) rfl;rwa [aJ,aJ] at this));have d2:W.cell? ⟨bt,H+x.1*4+2,nC⟩=mB (vi nd.fr):=g.cell (aK M (by have:=aN Z (i:=2) rfl;rwa [aJ,aJ] at this));have d3:W.cell? ⟨bt,H+x.1*4+3,nC⟩=mB (vi nd.to):=g.cell (aK M (by have:=aN Z (i:=3) rfl;rwa [aJ,aJ] at this));have J:W.cell? ⟨E,0,nC⟩=mB (tU (mB ⟨bt,H,nC⟩) lt J):=fw g Dc rfl;have ca:W.cell? ⟨E+1+1,0,nC⟩=mB (vi at_):=fw g pK rfl;have ce:W.cell? ⟨E+1+1+1,0,nC⟩=mB (oY ex):=fw g lR rfl;have cr:W.cell? ⟨E+1,0,nC⟩=mB (oY nS):=fw g eM rfl;have fa:W.frozen? ⟨E+1+1,0,nC⟩=nS:=jy g pK;have fe:W.frozen? ⟨E+1+1+1,0,nC⟩=nS:=jy g lR;have fr:W.frozen? ⟨E+1,0,nC⟩=nS:=jy g eM;have hx:Nat.lt x.1 lt:=a3;have z3:E+1+1+1<W.heap.size:=g.lt lR;have z2:E+1+1<W.heap.size:=by omega
  have z1:E+1<W.heap.size:=by omega
  have z0:E<W.heap.size:=by omega
  obtain ⟨x,a5⟩:=x;dsimp only at*;cases ex with
  |true=>
   gi_wp2
   ·gi_region
    all_goals exact ⟨rB (((KeepsOthers.setCell _ _ _).trans (KeepsOthers.setCell _ _ _)).trans (KeepsOthers.alloc _ _)),λ_=>eW (jz g _ _ _) U,_,_,jz g _ _ _,λl=>by rw [G];exact rA (λ_=>by assumption) (by omega)⟩
   ·exact ⟨(KeepsOthers.setCell _ _ _).trans (KeepsOthers.alloc _ _),rfl,⟨_,_,yy g _⟩,λl=>by rw [G];exact yx (.inl ⟨rfl,by assumption⟩)⟩
  |false=>
   gi_wp2
   ·exact ⟨(KeepsOthers.setCell _ _ _).trans (KeepsOthers.alloc _ _),rfl,⟨_,_,yy g _⟩,λl=>by rw [G];exact yx (.inr (by assumption))⟩
   ·gi_region
    all_goals exact ⟨rB (((KeepsOthers.setCell _ _ _).trans (KeepsOthers.setCell _ _ _)).trans (KeepsOthers.alloc _ _)),λ_=>eW (jz g _ _ _) U,_,_,jz g _ _ _,λl=>by rw [G];exact rA (λQ=>by cases Q) (by omega)⟩
 case done=>
  rintro D xs W hD a5 ⟨at_,ex,g,R⟩ X;have G:=R [];rw [yD,a5,N _ (tI _),wV] at G;have M:=lS (t:=⟨mB ⟨bt,H,nC⟩,lt,J⟩) (s:=⟨mB ⟨bs,os,nC⟩,L,cs⟩) (i:=(i:Int)) (r:=nS) (at_:=at_) (ex:=ex) C;have d3:W.cell? ⟨bt,H+i*4+3,nC⟩=mB (vi m.root.to):=g.cell (aK M (by have:=aN Z (i:=3) rfl;rwa [aJ,aJ] at this));have J:W.cell? ⟨E,0,nC⟩=mB (tU (mB ⟨bt,H,nC⟩) lt J):=fw g Dc rfl;have ca:W.cell? ⟨E+1+1,0,nC⟩=mB (vi at_):=fw g pK rfl;have ce:W.cell? ⟨E+1+1+1,0,nC⟩=mB (oY ex):=fw g lR rfl;have cr:W.cell? ⟨E+1,0,nC⟩=mB (oY nS):=fw g eM rfl;have fr:W.frozen? ⟨E+1,0,nC⟩=nS:=jy g eM;cases ex with
  |true=>
   gi_wp2
   gi_region
   all_goals gi_wp2
   all_goals refine ⟨by simp,.inl ⟨_,_,rfl,run_takeDeferred ((KeepsOthers.setCell W _ _).same D _ X rfl),?_⟩⟩
   all_goals obtain ⟨e1,Y⟩:=yz g (at_==m.root.to) X hD O
   all_goals refine ⟨oY (at_==m.root.to),?_,by rw [G];rfl,eW Y (lS C)⟩
   all_goals simp [results,asAddr,f77]
   all_goals exact jK Y underlying4 rfl (ld eM rfl)
  |false=>
   gi_wp2
   gi_region
   all_goals gi_wp2
   all_goals refine ⟨by simp,.inl ⟨_,_,rfl,run_takeDeferred ((KeepsOthers.setCell W _ _).same D _ X rfl),?_⟩⟩
   all_goals obtain ⟨e1,Y⟩:=yz g (decide (at_<=m.root.to)) X hD O
   all_goals refine ⟨oY (decide (at_<=m.root.to)),?_,by rw [G];rfl,eW Y (lS C)⟩
   all_goals simp [results,asAddr,f77]
   all_goals exact jK Y underlying4 rfl (ld eM rfl)
 case stop=>
  rintro D c I W hD ⟨k,hk,a6⟩ ⟨rfl,⟨at_,ex,g⟩,R⟩ X;have G:=R ((m.kids.drop k).map Dtr.root);rw [a6,N k hk,<- yO,WY] at G
  gi_wp2
  refine ⟨by simp,.inl ⟨_,_,rfl,run_takeDeferred X,?_⟩⟩;have Y:=gF g O (grownBy_putObj' W D (.deferred nC)) λr Q=>by cases Q;exact hD
  refine ⟨.bool nS,?_,by rw [G],eW Y (lS C)⟩;simp [results,asAddr,f77];exact jK Y underlying4 rfl (ld eM rfl)
theorem qg4 (g:bP T i=mB m) (H:szN T<=2000000) (C:RL F s (Vp T)) (h:RL F t (vq T)):
  ν 77 #[t.v,s.v,vi (i:Int)] F λr E=>r=oY (dZ m.root.fr nZ (m.kids.map Dtr.root) m.root.to)/\E=F:=λe w J=>by
 obtain ⟨b,o,B,_⟩:=i6 C (pG g);have I:0<t.len:=by
  have:=h.len;have:=eC g;have:t.len=szN T:=by assumption
  omega
 obtain ⟨R,V,A,_⟩:∃b o,t.qa5=mB ⟨b,o,nC⟩/\True:=by obtain ⟨vs,_,G⟩:=h;obtain ⟨b,o,D,_⟩:=G.cells I;exact ⟨b,o,D,trivial⟩
 obtain ⟨N,Q,P⟩:=s;obtain ⟨U,K,O⟩:=t;cases B;cases A;exact ((callsIn_wide (n:=3)).1 (qhi w J g H C h)).mono λM L ⟨B,A⟩=>⟨_,F,B,A,rfl,rfl⟩
end
inductive Ltr where
 |lf (s:ο)
 |nd (pr:Int) (ks:List Ltr)
def Zx (ks:List Ltr) (k:Nat):ο:=match ks[k - 1]? with
 |some (.lf s)=>s
 |_=> .empty
section
variable (sp:Int->Spc)
def UQ (pr:Int) (ks:List Ltr):List tW:=if 0<(sp pr).decl then [(Zx ks (sp pr).decl,(sp pr).kind)] else []
mutual
def YF:Ltr->List tW
 | .lf _=>[]
 | .nd pr ks=>(if (sp pr).opens=nZ then [] else Is ks)++UQ sp pr ks
def Is:List Ltr->List tW
 |[]=>[]
 |n::l=>YF n++Is l
end
def ZR (az:List tW) (pr:Int) (ks:List Ltr):Bool:=if (sp pr).uses=0 then nZ else Xb (sp pr).allow (eG (Zx ks (sp pr).uses) az)
mutual
def WA (az:List tW):Ltr->List (List tW×Bool)
 | .lf _=>[(az,nZ)]
 | .nd pr ks=>(az,ZR sp az pr ks)::Yl az ks
def Yl (az:List tW):List Ltr->List (List tW×Bool)
 |[]=>[]
 |n::l=>WA az n++Yl (az++YF sp n) l
end
end
section
variable (tx:Int->Int->ο)
mutual
def Vn:Dtr->Ltr
 | .lf _ fr to=> .lf (tx fr to)
 | .nd pr _ _ ks=> .nd pr (ic ks)
def ic:List Dtr->List Ltr
 |[]=>[]
 |n::l=>Vn n::ic l
end
theorem yB:∀l:List Dtr,ic tx l=l.map (Vn tx)
 |[]=>by unfold ic;rfl
 |n::l=>by rw [ic,yB l,xV]
end
section
variable {sp:Int->Spc} {tx:Int->Int->ο}
def Bi:Dtr->Prop
 | .lf _ _ _=>True
 | .nd _ _ _ _=>False
def ZG (sp:Int->Spc) (pr:Int) (ks:List Dtr):Prop:=(0<(sp pr).decl->∃c,ks[(sp pr).decl - 1]? =mB c/\Bi c)/\(0<(sp pr).uses->∃c,ks[(sp pr).uses - 1]? =mB c/\Bi c)
def LfT (sp:Int->Spc) (n:Dtr):Prop:=∀m∈xP n,∀pr fr to ks,m=.nd pr fr to ks->ZG sp pr ks
theorem Rv {n:Dtr} {ks:List Dtr} (h:n∈ks):∀{m:Dtr},m∈xP n->m∈yj ks:=by
 induction ks with
 |nil=>cases h
 |cons k l ih=>
  intro m g;rw [yj,vl];rcases tQ.1 h with rfl|h
  ·exact .inl g
  ·exact .inr (ih h g)
theorem LfT.kid {pr fr to:Int} {ks:List Dtr} (h:LfT sp (.nd pr fr to ks)) {k:Dtr} (r:k∈ks):LfT sp k:=λm g=>h m (by rw [xP];exact VB _ (Rv r g))
theorem LfT.here {pr fr to:Int} {ks:List Dtr} (h:LfT sp (.nd pr fr to ks)):ZG sp pr ks:=h _ (by rw [xP];exact Xw) pr fr to ks rfl
theorem Dd {ks:List Dtr} {q:Nat} (h:∃c,ks[q - 1]? =mB c/\Bi c):Zx (ic tx ks) q=WG tx ks q:=by
 obtain ⟨c,r,g⟩:=h;unfold Zx WG;rw [yB,yr,r];cases c with
 |lf w A to=>rw [VF,Vn];rfl
 |nd=>cases g
theorem De:∀(l:List Dtr),(∀k∈l,YF sp (Vn tx k)=yL sp tx k)->Is sp (ic tx l)=Vf sp tx l
 |[],_=>by unfold ic Is Vf;rfl
 |n::l,h=>by rw [ic,Is,Vf,h n (by simp),De l λk g=>h k (by simp [g])]
theorem Bj:∀n:Dtr,LfT sp n->YF sp (Vn tx n)=yL sp tx n:=Dtr.ind (λ_ _ _ _=>by unfold Vn YF yL;rfl) λw A to r ih h=>by
 rw [Vn,YF,yL,De r λk g=>ih k g (h.kid g)];congr 1;unfold UQ tY;by_cases hd:0<(sp w).decl
 ·rw [Χ hd,Χ hd,Dd (h.here.1 hd)]
 ·rw [Υ hd,Υ hd]
theorem Ry {az:List tW} {pr fr to:Int} {ks:List Dtr} (h:ZG sp pr ks):ZR sp az pr (ic tx ks)=XB sp tx az (.nd pr fr to ks):=by
 show _=if (sp pr).uses=0 then nZ else Xb (sp pr).allow (eG (WG tx ks (sp pr).uses) az)
 unfold ZR;by_cases g:(sp pr).uses=0
 ·rw [Χ g,Χ g]
 ·rw [Υ g,Υ g,Dd (h.2 (by omega))]
theorem Df:∀(l:List Dtr),(∀k∈l,LfT sp k)->(∀k∈l,∀az,(WA sp az (Vn tx k)).map Prod.fst=zo sp tx az k)->∀az,(Yl sp az (ic tx l)).map Prod.fst=Vy sp tx az l
 |[],_,_,az=>by unfold ic Yl Vy;rfl
 |n::l,hl,h,az=>by rw [ic,Yl,Vy,yO,h n (by simp),Bj n (hl n (by simp)),Df l (λk g=>hl k (by simp [g])) λk g=>h k (by simp [g])]
theorem Rz:∀n:Dtr,LfT sp n->∀az,(WA sp az (Vn tx n)).map Prod.fst=zo sp tx az n:=Dtr.ind (λ_ _ _ _ az=>by unfold Vn WA zo;rfl) λA w to r ih h az=>by rw [Vn,WA,sU,xV];show az::_=az::Vy sp tx az r;rw [Df r (λk g=>h.kid g) λk g=>ih k g (h.kid g)]
end
inductive Ttr where
 |lf (tk:Int)
 |nd (pr:Int) (ks:List Ttr)
theorem Ttr.ind {P:Ttr->Prop} (r:∀s,P (.lf s)) (g:∀pr ks,(∀k∈ks,P k)->P (.nd pr ks)):∀n,P n:=λn=>
 Ttr.rec (motive_1:=P) (motive_2:=λks=>∀k∈ks,P k) r (λpr ks ih=>g pr ks ih) (λ_ h=>(by cases h)) (λn l g r k w=>by
  rcases tQ.1 w with rfl|w
  ·exact g
  ·exact r k w) n
mutual
def yF:Ttr->Nat
 | .lf _=>1
 | .nd _ ks=>zp ks
def zp:List Ttr->Nat
 |[]=>0
 |n::l=>yF n+zp l
end
section
variable (W:Nat->Int×Int) (gp:Nat->Int)
mutual
def yd (a:Nat):Ttr->Dtr
 | .lf tk=> .lf tk (W a).1 (W a).2
 | .nd pr ks=> .nd pr (gp a) (gp (a+zp ks)) (Uw a ks)
def Uw (a:Nat):List Ttr->List Dtr
 |[]=>[]
 |n::l=>yd a n::Uw (a+yF n) l
end
def YG (m:Nat):Prop:=∀j,j<m->(W j).1=gp j/\(W j).1<(W j).2/\(W j).2<=gp (j+1)
def Y2:Ttr->Prop
 | .lf _=>True
 | .nd pr _=>0<=pr
theorem Md {m a:Nat} {n:Ttr} (B:YG W gp m) (r:a+yF n<=m) (w:Y2 n):(yd W gp a n).root.fr=gp a/\(if 0<=(yd W gp a n).root.pr then (yd W gp a n).root.to=gp (a+yF n) else (yd W gp a n).root.to<=gp (a+yF n)):=by
 cases n with
 |lf D=>
  unfold yF at r ⊢;obtain ⟨C,_,A⟩:=B a (by omega);unfold yd;refine ⟨C,?_⟩;show if (0:Int)<=-1 then (W a).2=gp (a+1) else (W a).2<=gp (a+1)
  rw [Υ (by decide)];exact A
 |nd h g=>
  unfold yd yF;refine ⟨rfl,?_⟩;show if 0<=h then gp (a+zp g)=gp (a+zp g) else gp (a+zp g)<=gp (a+zp g)
  rw [Χ (show 0<=h from w)]
theorem Dg {m:Nat} (A:YG W gp m):∀(l:List Ttr) (a:Nat) (at_:Int) (ex:Bool),a+zp l<=m->(∀n∈l,Y2 n)->(ex=nZ->at_=gp a)->at_<=gp a->mP at_ ex ((Uw W gp a l).map Dtr.root) (gp (a+zp l))
 |[],a,at_,ex,_,_,h1,h2=>by
  unfold Uw zp;rw [List.map_nil];unfold mP;split
  ·rename_i h;exact h1 h
  ·exact h2
 |n::l,a,at_,ex,r,hp,h1,h2=>by
  have r:a+(yF n+zp l)<=m:=r;obtain ⟨D,g⟩:=Md W gp A (a:=a) (n:=n) (by omega) (hp n (by simp));rw [Uw,xV,show zp (n::l)=yF n+zp l from rfl,<- V7];unfold mP;refine ⟨?_,Dg A l (a+yF n) _ _ (by omega) (λk C=>hp k (by simp [C])) (λh=> ?_) ?_⟩
  ·rw [D];rintro (⟨w,B⟩|w)
   ·exact B (h1 w).symm
   ·omega
  ·rw [Χ (ζ h)] at g;exact g
  ·split at g
   ·rw [g];exact Vr _
   ·exact g
theorem FJ {m a:Nat} {pr:Int} {ks:List Ttr} (g:YG W gp m) (h:a+zp ks<=m) (r:∀n∈ks,Y2 n):mP (gp a) nZ ((Uw W gp a ks).map Dtr.root) (gp (a+zp ks)):=
 Dg W gp g ks a (gp a) nZ h r (λ_=>rfl) (Vr _)
end
mutual
def w5 (a:Nat):Ttr->List (Ttr×Nat)
 | .lf tk=>[(.lf tk,a)]
 | .nd pr ks=>(.nd pr ks,a)::yK a ks
def yK (a:Nat):List Ttr->List (Ttr×Nat)
 |[]=>[]
 |n::l=>w5 a n++yK (a+yF n) l
end
def Z1 (n:Ttr):Nat:=match n with
 | .lf _=>1
 | .nd _ _=>0
def VO (l:List (Ttr×Nat)):Nat:=(l.map λx=>Z1 x.1).sum
theorem Me:VO []=0:=rfl
theorem rC (x:Ttr×Nat) (l:List (Ttr×Nat)):VO (x::l)=Z1 x.1+VO l:=by unfold VO;rw [xV,List.sum_cons]
theorem ie (l m:List (Ttr×Nat)):VO (l++m)=VO l+VO m:=by unfold VO;rw [yO,List.sum_append]
theorem Dh:∀(l:List Ttr),(∀k∈l,∀a,VO (w5 a k)=yF k)->∀a,VO (yK a l)=zp l
 |[],_,a=>by unfold yK zp;rfl
 |n::l,h,a=>by rw [yK,ie,h n (by simp),Dh l (λk g=>h k (by simp [g]))];rfl
theorem vW:∀(n:Ttr) (a:Nat),VO (w5 a n)=yF n:=Ttr.ind (λr a=>by unfold w5 yF;rfl) λh g ih a=>by rw [w5,rC,Dh g ih];show 0+zp g=zp g;omega
theorem Di:∀(l:List Ttr),(∀k∈l,∀(a i:Nat) (x:Ttr×Nat),(w5 a k)[i]? =mB x->x.2=a+VO ((w5 a k).take i))->∀(a i:Nat) (x:Ttr×Nat),(yK a l)[i]? =mB x->x.2=a+VO ((yK a l).take i)
 |[],_,a,i,x,h=>by rw [yK] at h;simp at h
 |n::l,hk,a,i,x,h=>by
  rw [yK] at h ⊢;by_cases hi:i<(w5 a n).length
  ·rw [z8 hi] at h;rw [WJ (by omega)];exact hk n (by simp) a i x h
  ·rw [Vm (by omega)] at h;rw [List.take_append,yY (by omega),ie,vW];have:=Di l (λk h=>hk k (by simp [h])) (a+yF n) (i - (w5 a n).length) x h;omega
theorem RA:∀(n:Ttr) (a i:Nat) (x:Ttr×Nat),(w5 a n)[i]? =mB x->x.2=a+VO ((w5 a n).take i):=Ttr.ind (λw a i x h=>by
  rw [w5] at h;cases i with
  |zero=>cases h;rfl
  |succ i=>simp at h) λr g ih a i x h=>by
 cases i with
 |zero=>rw [w5] at h;cases h;rfl
 |succ i=>rw [w5,V6] at h;rw [w5,Ys,rC,Di g ih a i x h];show a+VO ((yK a g).take i)=a+(0+VO ((yK a g).take i));omega
section
variable (W:Nat->Int×Int) (gp:Nat->Int)
theorem It:∀(l:List Ttr),(∀k∈l,∀a,vq (yd W gp a k)=(w5 a k).map λx=>(yd W gp x.2 x.1).root)->∀a,VI (Uw W gp a l)=(yK a l).map λx=>(yd W gp x.2 x.1).root
 |[],_,a=>by unfold Uw VI yK;rfl
 |n::l,h,a=>by rw [Uw,VI,yK,yO,h n (by simp),It l (λk g=>h k (by simp [g]))]
theorem Iu:∀(n:Ttr) (a:Nat),vq (yd W gp a n)=(w5 a n).map λx=>(yd W gp x.2 x.1).root:=Ttr.ind (λr a=>by unfold yd vq w5;rfl) λh g ih a=>by
 rw [w5,xV,lw];have e:yd W gp a (.nd h g)=.nd h (gp a) (gp (a+zp g)) (Uw W gp a g):=by rw [yd]
 rw [e];show _::VI (Uw W gp a g)=_;rw [It W gp g ih]
end
structure Tmn where
 pr:Int
 tk:Int
 tx:ο
 rm:List ο
abbrev Tmn.arr (x:Tmn) (r:Sl):Γ:= #[vi x.pr,vi x.tk,.string x.tx,r.v]
instance:Mem Tmn where
 n:=4
 rep F x c:=∃r,c=x.arr r/\RL F r x.rm
 len h:=by obtain ⟨r,rfl,_⟩:=h;rfl
 le hl h:=by obtain ⟨r,h1,h2⟩:=h;exact ⟨r,h1,h2.le hl⟩
 st h:=by obtain ⟨r,rfl,_⟩:=h;simp [ak,nV]
def kR:Ttr->Int×Int
 | .lf tk=>(-1,tk)
 | .nd pr _=>(pr,-1)
def Ttr.kids:Ttr->List Ttr
 | .lf _=>[]
 | .nd _ ks=>ks
theorem rD (a:Nat) (m:Ttr):w5 a m=(m,a)::yK a m.kids:=by
 cases m with
 |lf=>unfold w5 Ttr.kids yK;rfl
 |nd=>unfold w5 Ttr.kids;rfl
def yP (m:Ttr):Nat:=(w5 0 m).length
def y4 (l:List Ttr):Nat:=(yK 0 l).length
theorem lT:∀(l:List Ttr),(∀k∈l,∀a b,(w5 a k).map (λx=>x.1)=(w5 b k).map (λx=>x.1))->∀a b,(yK a l).map (λx=>x.1)=(yK b l).map (λx=>x.1)
 |[],_,a,b=>by unfold yK;rfl
 |n::l,h,a,b=>by rw [yK,yK,yO,yO,h n (by simp) a b,lT l (λk g=>h k (by simp [g])) _ (b+yF n)]
theorem pL:∀(m:Ttr) (a b:Nat),(w5 a m).map (λx=>x.1)=(w5 b m).map (λx=>x.1):=Ttr.ind (λr a b=>by unfold w5;rfl) λh g ih a b=>by rw [w5,w5,xV,xV,lT g ih a b]
theorem Dk (a:Nat) (m:Ttr):(w5 a m).length=yP m:=by have:=congrArg List.length (pL m a 0);rwa [vb,vb] at this
theorem Dl (a:Nat) (l:List Ttr):(yK a l).length=y4 l:=by have:=congrArg List.length (lT l (λk _=>pL k) a 0);rwa [vb,vb] at this
theorem kS (m:Ttr):yP m=1+y4 m.kids:=by unfold yP;rw [rD,wo,Dl];omega
theorem fz:y4 []=0:=by unfold y4;rw [yK];rfl
theorem i7 (m:Ttr) (l:List Ttr):y4 (m::l)=yP m+y4 l:=by unfold y4;rw [yK,tT,Dk,Dl];rfl
theorem kT:∀(l r:List Ttr),y4 (l++r)=y4 l+y4 r
 |[],r=>by rw [zr,fz,yp]
 |m::l,r=>by rw [zH,i7,i7,kT l r,V7]
def Vh (m:Ttr):List (Int×Int):=(w5 0 m).map λx=>kR x.1
def V2 (l:List Ttr):List (Int×Int):=(yK 0 l).map λx=>kR x.1
theorem vX (a:Nat) (m:Ttr):(w5 a m).map (λx=>kR x.1)=Vh m:=by have:=congrArg (List.map kR) (pL m a 0);rw [List.map_map,List.map_map] at this;exact this
theorem Iv (a:Nat) (l:List Ttr):(yK a l).map (λx=>kR x.1)=V2 l:=by have:=congrArg (List.map kR) (lT l (λk _=>pL k) a 0);rw [List.map_map,List.map_map] at this;exact this
theorem rE (m:Ttr):Vh m=kR m::V2 m.kids:=by unfold Vh;rw [rD,xV,Iv]
theorem jA:V2 []=[]:=by unfold V2;rw [yK];rfl
theorem gH (m:Ttr) (l:List Ttr):V2 (m::l)=Vh m++V2 l:=by unfold V2;rw [yK,yO,Iv];rfl
theorem rF:∀(l r:List Ttr),V2 (l++r)=V2 l++V2 r
 |[],r=>by rw [zr,jA,zr]
 |m::l,r=>by rw [zH,gH,gH,rF l r,yb]
theorem eO (m:Ttr):(Vh m).length=yP m:=by unfold Vh yP;rw [vb]
theorem Mf (l:List Ttr):(V2 l).length=y4 l:=by unfold V2 y4;rw [vb]
mutual
def wx (g:Gr) (c:Cf):Sy->Ttr->Prop
 |s,.lf tk=>s=⟨nZ,tk⟩/\0<=tk/\tk<g.qa2.length/\(eH g tk).ev c=nZ
 |s,.nd pr ks=>∃p,V5 g pr=mB p/\s=⟨nS,p.left⟩/\(vf p.cond).ev c=nZ/\TrL g c p.right ks
def TrL (g:Gr) (c:Cf):List Sy->List Ttr->Prop
 |[],[]=>True
 |s::r,k::ks=>wx g c s k/\TrL g c r ks
 |[],_::_=>False
 |_::_,[]=>False
end
theorem TrL.snoc {g:Gr} {c:Cf} {s:Sy} {k:Ttr}:∀{r:List Sy} {ks:List Ttr},TrL g c r ks->wx g c s k->TrL g c (r++[s]) (ks++[k])
 |[],[],_,h=>by show TrL g c [s] [k];unfold TrL;exact ⟨h,by unfold TrL;trivial⟩
 |x::r,y::ks,h,h2=>by rw [zH,zH];unfold TrL at h ⊢;exact ⟨h.1,TrL.snoc h.2 h2⟩
 |[],_::_,h,_=>by unfold TrL at h;exact h.elim
 |_::_,[],h,_=>by unfold TrL at h;exact h.elim
theorem TrL.nil {g:Gr} {c:Cf}:TrL g c [] []:=by unfold TrL;trivial
def qgJ (g:Gr) (c:Cf):Dtr->Prop
 | .lf tk _ _=>(eH g tk).ev c=nZ
 | .nd pr _ _ _=>∃p,V5 g pr=mB p/\(vf p.cond).ev c=nZ
section
variable {g:Gr} {c:Cf} {W:Nat->Int×Int} {gp:Nat->Int}
theorem RB {s:Sy} {m:Ttr} (h:wx g c s m) (a:Nat):XA g (yd W gp a m)=s:=by
 cases m with
 |lf C=>unfold wx at h;unfold yd;rw [h.1];rfl
 |nd B A=>unfold wx at h;obtain ⟨p,w,r,_⟩:=h;unfold yd;show (⟨nS,_⟩:Sy)=s;rw [w,r];rfl
theorem Dm:∀{r:List Sy} {l:List Ttr},TrL g c r l->∀a,(Uw W gp a l).map (XA g)=r
 |[],[],_,a=>by unfold Uw;rfl
 |s::r,k::ks,h,a=>by unfold TrL at h;rw [Uw,xV,RB h.1,Dm h.2]
 |[],_::_,h,_=>by unfold TrL at h;exact h.elim
 |_::_,[],h,_=>by unfold TrL at h;exact h.elim
theorem rG {n:Nat} (r:YG W gp n):∀{a b:Nat},a<=b->b<=n->gp a<=gp b:=λ{a b} h=>by
 induction h with
 |refl=>exact λ_=>Vr _
 |step h ih=>intro w;rename_i m;have B:=r m (by omega);have A:=ih (by omega);show gp a<=gp (m+1);omega
def qgK (m:Dtr):Prop:=match m with
 | .lf _ _ _=>True
 | .nd _ fr to ks=>mP fr nZ (ks.map Dtr.root) to
theorem Iw {s:Sy} {m:Ttr} (h:wx g c s m):Y2 m:=by
 cases m with
 |lf=>trivial
 |nd w A=>unfold wx at h;obtain ⟨p,r,_⟩:=h;exact (bG r).1
theorem Dn:∀{r:List Sy} {l:List Ttr},TrL g c r l->∀m∈l,Y2 m
 |[],[],_,m,w=>by cases w
 |s::r,k::ks,h,m,w=>by
  unfold TrL at h;rcases tQ.1 w with rfl|w
  ·exact Iw h.1
  ·exact Dn h.2 m w
 |[],_::_,h,_,_=>by unfold TrL at h;exact h.elim
 |_::_,[],h,_,_=>by unfold TrL at h;exact h.elim
def ZH (g:Gr) (c:Cf) (m:Dtr):Prop:=Gy g m/\qgJ g c m/\qgK m
theorem Iy {n:Nat}:∀(l:List Ttr),(∀k∈l,∀(s:Sy) (a:Nat),wx g c s k->a+yF k<=n->∀m∈xP (yd W gp a k),ZH g c m)->∀(r:List Sy) (a:Nat),TrL g c r l->a+zp l<=n->∀m∈yj (Uw W gp a l),ZH g c m
 |[],_,r,a,_,_,m,w=>by unfold Uw yj at w;cases w
 |k::l,ih,[],a,h,_,m,w=>by unfold TrL at h;exact h.elim
 |k::l,ih,s::r,a,h,ha,m,w=>by
  unfold TrL at h;unfold zp at ha;rw [Uw,yj,vl] at w;rcases w with w|w
  ·exact ih k (by simp) s a h.1 (by omega) m w
  ·exact Iy l (λk A=>ih k (by simp [A])) r _ h.2 (by omega) m w
theorem UR {n:Nat} (I:0<=gp 0) (B:YG W gp n):∀(t:Ttr) (s:Sy) (a:Nat),wx g c s t->a+yF t<=n->∀m∈xP (yd W gp a t),ZH g c m:=Ttr.ind (λG s a h w m r=>by
  unfold wx at h;unfold yF at w;unfold yd xP at r;rw [wa] at r;subst r;obtain ⟨D,E,_⟩:=B a (by omega);have:=rG B (yM a) (by omega)
  exact ⟨⟨h.2.1,h.2.2.1,by omega,E⟩,h.2.2.2,trivial⟩) λpr A ih s a h w m r=>by
 have H:=Iw h;unfold wx at h;obtain ⟨p,D,E,F,C⟩:=h;unfold yF at w;rw [fm] at r;have e:yd W gp a (.nd pr A)=.nd pr (gp a) (gp (a+zp A)) (Uw W gp a A):=by rw [yd]
 rw [e] at r;rcases tQ.1 r with rfl|r
 ·have:=rG B (yM a) (by omega);have:=rG B (Nat.le_add_right a (zp A)) w;exact ⟨⟨by omega,by omega,p,D,(Dm C a).symm⟩,⟨p,D,F⟩,FJ W gp (pr:=pr) B w (Dn C)⟩
 ·exact Iy A ih _ _ C w m r
theorem FK:∀(t:Ttr) (a i:Nat) (x:Ttr×Nat),(w5 a t)[i]? =mB x->∃b d,w5 a t=b++w5 x.2 x.1++d/\b.length=i:=by
 have w:∀(l:List Ttr),(∀k∈l,∀(a i:Nat) (x:Ttr×Nat),(w5 a k)[i]? =mB x->∃b d,w5 a k=b++w5 x.2 x.1++d/\b.length=i)->∀(a i:Nat) (x:Ttr×Nat),(yK a l)[i]? =mB x->∃b d,yK a l=b++w5 x.2 x.1++d/\b.length=i:=by
  intro l;induction l with
  |nil=>intro _ a i x h;rw [yK] at h;simp at h
  |cons n l ih=>
   intro B a i x h;rw [yK] at h ⊢;by_cases hi:i<(w5 a n).length
   ·rw [z8 hi] at h;obtain ⟨b,d,e,r⟩:=B n (by simp) a i x h;exact ⟨b,d++yK (a+yF n) l,by rw [e];simp only [yb],r⟩
   ·rw [Vm (by omega)] at h;obtain ⟨b,d,e,r⟩:=ih (λk h=>B k (by simp [h])) _ _ x h;exact ⟨w5 a n++b,d,by rw [e];simp only [yb],by rw [tT,r];omega⟩
 refine Ttr.ind (λD a i x h=> ?_) λC A ih a i x h=> ?_
 ·rw [w5] at h;cases i with
  |zero=>cases h;exact ⟨[],[],by simp,rfl⟩
  |succ i=>simp at h
 ·rw [rD] at h;cases i with
  |zero=>cases h;exact ⟨[],[],by simp,rfl⟩
  |succ i=>rw [V6] at h;obtain ⟨b,d,e,r⟩:=w A ih a i x h;refine ⟨(.nd C A,a)::b,d,?_,by rw [wo,r]⟩;rw [rD,show (Ttr.nd C A).kids=A from rfl,e];simp
end
end
end Go.Proofs.YteilolbbgieadaaGreatDoor
namespace Go.Proofs.YteilolbbgieadaaGreatDoor
open Go.IntKind (i64 u8 u64)
open Sl renaming v->nV,nil->pk,mk->tX,cut->xy
open Go Go.Proofs.Tryz Tr
abbrev Ns:=List (Int×Sl×Φ)
def V3:Ns->Int->Option ξ
 |[],_=>nC
 |e::l,a=>if a=e.1 then mB e.2.1.v else V3 l a
def Vu:Ns->Int->Φ
 |[],_=>[]
 |e::l,a=>if a=e.1 then e.2.2 else Vu l a
theorem rH {e:Int×Sl×Φ} {l:Ns} {a:Int} (h:a=e.1):V3 (e::l) a=mB e.2.1.v:=Χ h
theorem nG {e:Int×Sl×Φ} {l:Ns} {a:Int} (h:a≠e.1):V3 (e::l) a=V3 l a:=Υ h
theorem nH {e:Int×Sl×Φ} {l:Ns} {a:Int} (h:a=e.1):Vu (e::l) a=e.2.2:=Χ h
theorem kU {e:Int×Sl×Φ} {l:Ns} {a:Int} (h:a≠e.1):Vu (e::l) a=Vu l a:=Υ h
def Wv (l:Ns):List (Ψ):=l.map λe=>own e.2.1 3 1 (e.2.2.map vi)
section
variable {G F:PH}
theorem St.init {As Bs:List (Ψ)} (h:St G F (As++Bs)):St G F As:=h.pick id (λ_ _ _ _ e=>e) λi hi=>by rw [id,z8 hi]
theorem St.mid {A:Ψ} {Ps w:List (Ψ)} (h:St G F (Ps++A::w)):St G F (A::(Ps++w)):=by
 refine h.pick (λi=>if i=0 then Ps.length else if i<=Ps.length then i - 1 else i) (λi j _ _ e=> ?_) (λi hi=> ?_)
 ·split at e<;>split at e<;>(try split at e)<;>(try split at e)<;>omega
 ·by_cases g:i=0
  ·rw [Χ g,g,Vm (tI _),Yi];rfl
  ·obtain ⟨j,rfl⟩:∃j,i=j+1:=⟨i - 1,by omega⟩;rw [Υ g];by_cases r:j+1<=Ps.length
   ·rw [Χ r,Nat.add_sub_cancel,V6,z8 (by omega),z8 (by omega)]
   ·rw [Υ r,V6,Vm (by omega),Vm (by omega)];rw [show j+1 - Ps.length=(j - Ps.length)+1 by omega,V6]
theorem Do (a:Int):∀(l:Ns) (Ps:List (Ψ)),(l.map (·.1)).Nodup->St G F (Ps++Wv l)->∃s l',St G F (own s 3 1 ((Vu l a).map vi)::(Ps++Wv l'))/\(V3 l a).getD (nV pk)=s.v/\
  (∀k,k≠a->V3 l' k=V3 l k/\Vu l' k=Vu l k)/\(l'.map (·.1)).Sublist (l.map (·.1))/\a ∉ l'.map (·.1)
 |[],Ps,_,h=>⟨pk,[],h.nilOwn _ _,rfl,λ_ _=>⟨rfl,rfl⟩,List.Sublist.refl _,by simp⟩
 |e::l,Ps,hn,h=>by
  rw [xV,Wx] at hn;by_cases r:a=e.1
  ·have A:St G F (Ps++own e.2.1 3 1 (e.2.2.map vi)::Wv l):=h;refine ⟨e.2.1,l,?_,?_,λk B=> ?_,?_,by rw [r];exact hn.1⟩
   ·have:=A.mid;rw [nH r];exact this
   ·rw [rH r];rfl
   ·have w:k≠e.1:=by rw [<- r];exact B
    exact ⟨(nG w).symm,(kU w).symm⟩
   ·rw [xV];exact List.sublist_cons_self _ _
  ·have A:St G F ((Ps++[own e.2.1 3 1 (e.2.2.map vi)])++Wv l):=by rw [yb];exact h
   obtain ⟨s,l',C,I,J,E,D⟩:=Do a l _ hn.2 A;refine ⟨s,e::l',?_,?_,λk B=> ?_,?_,?_⟩
   ·rw [yb] at C;rw [kU r];exact C
   ·rw [nG r];exact I
   ·obtain ⟨K,H⟩:=J k B;by_cases g:k=e.1
    ·rw [rH g,rH g,nH g,nH g];exact ⟨rfl,rfl⟩
    ·rw [nG g,nG g,kU g,kU g];exact ⟨K,H⟩
   ·rw [xV,xV];exact E.cons_cons _
   ·rw [xV,tQ,not_or];exact ⟨r,D⟩
theorem Iz:∀(l:Ns) {G:PH},St G F (Wv l)->∃w,G.le w/\(∀e∈l,RL w e.2.1 e.2.2)/\St w F []
 |[],G,h=>⟨G,au _,λ_ h=>(by cases h),h⟩
 |e::l,G,h=>by
  have B:St G F (own e.2.1 3 1 (e.2.2.map vi)::Wv l):=h;obtain ⟨I,E,hd,H⟩:=B.pinO;obtain ⟨D,A,g,C⟩:=Iz l H;refine ⟨D,aa E A,λx r=> ?_,C⟩;rcases tQ.1 r with rfl|r
  ·exact RL.ints.2 (hd.le A)
  ·exact g x r
theorem IA {a:Int}:∀{l:Ns},(V3 l a=nC/\Vu l a=[])\/∃e∈l,V3 l a=mB e.2.1.v/\Vu l a=e.2.2
 |[]=> .inl ⟨rfl,rfl⟩
 |e::l=>by
  by_cases g:a=e.1
  ·rw [rH g,nH g];exact .inr ⟨e,by simp,rfl,rfl⟩
  ·rw [nG g,kU g];rcases IA (a:=a) (l:=l) with h|⟨x,r,h⟩
   ·exact .inl h
   ·exact .inr ⟨x,VB _ r,h⟩
end
section
variable {G F:PH} {g:Gr} {ms b4:Nat} {a0:Θ} {T:Int×Int->Tr} {R:VR} {K:List (Int×Int)}
theorem US {B:Array MapEntry} {c:Nat} {L:List ((Int×Int)×ξ)} {mp:Int×Int->Option ξ} (q4:G b4=mB (mX #[.map (mB ms)] 211)) (qs:G ms=mB (.map B c)) (Y:rk gx mp B c L) (hS:iY G T mp) (hK:∀n,mp n≠nC->n∈K) (c4:K.length<=1000000)
  (h:St G F []) (fin:∀C I b14 M nx,G.le C->CyE C b14 M b4 ms nx T->(∀a b,T (a,b)≠qa6 nS->b∈nx a)->(∀a b,b∈nx a->(a,b)∈K)->(∀a,(nx a).length<=K.length)->St C I []->vN a0 b4 b14 R I):
  vO a0 b4 R F:=by
 obtain ⟨_,_,TI⟩:=Rs;unfold vO;refine h.newMap bg λM F1 h=> ?_;refine h.var1 λb14 G1 F2 l1 b0 h=> ?_;have c3:B.size<=K.length:=by rw [Y.len,<- vb (f:=(·.1))];refine gg Y.nodup λx J=> ?_;obtain ⟨p,hp,rfl⟩:=xR.1 J;refine hK _ ?_;rw [Y.lk,(jw Y.nodup).2 hp];simp
 refine ⟨_,ld (h.le _ _ (l1 _ _ q4)) rfl,?_⟩;refine h.rangeG underlying211 gx (h.le _ _ (l1 _ _ qs)) λr F3 h=> ?_
 refine ⟨λq I=>∃(C:PH) (A:List (Int×Int)) (l:Ns),q=B.size - A.length/\G1.le C/\A.Nodup/\(∀n∈A,∃v,mp n=mB v)/\(l.map (·.1)).Nodup/\(∀a b,b∈Vu l a↔(a,b)∈A)/\(∀a,(Vu l a).length<=A.length)/\
  ∃Bs,St C I ([itG gx ms r B c A,WH M bg (V3 l)]++Wv l++Bs),B.size,⟨G1,[],[],rfl,au _,List.nodup_nil,λ_ h=>(by cases h),List.nodup_nil,λa b=>by simp [Vu],λa=>by simp [Vu],[],h⟩,?_⟩
 rintro q F4 ⟨G2,A,l,rfl,l2,W,Q,a3,P,X,Bs,h⟩;replace h:St G2 F4 (itG gx ms r B c A::WH M bg (V3 l)::Wv l):=St.init (As:=[itG gx ms r B c A,WH M bg (V3 l)]++Wv l) h;unfold Id;have b2:=aa l1 l2;refine h.nextG Y yu W Q (h.le _ _ (b2 _ _ qs)) (λa1=> ?_) λn v F5 b7 b6 c7 h hr a5=> ?_
 ·refine ⟨_,rfl,nS,rfl,λhc=>(by cases hc),λ_=> ?_⟩;have h1:=h.tail;obtain ⟨G3,l3,⟨H,⟨o,e1,e2⟩,hH⟩,h2⟩:=h1.pin;obtain ⟨G4,U,b5,h3⟩:=Iz l h2;have a4:=aa l2 (aa l3 U);have N:=aa l1 a4;refine fin G4 F4 b14 M (Vu l) N ⟨a4 _ _ b0,N _ _ q4,⟨o,_,U _ _ (hH _ _ e1),e2,λa=> ?_⟩,⟨_,mp,N _ _ qs,⟨B,c,L,rfl,Y.eq,Y.lk⟩,hS.le N⟩⟩ (λa b hT=> ?_) (λa b hb=> ?_) (λa=> ?_) h3
  ·rcases IA (a:=a) (l:=l) with h|⟨e,he,g1,g2⟩
   ·exact .inl h
   ·exact .inr ⟨e.2.1,g1,by rw [g2];exact b5 e he⟩
  ·refine (P a b).2 ?_;rcases hS (a,b) with ⟨_,e⟩|⟨w,e,_⟩
   ·exact absurd e hT
   ·exact a1 _ _ e
  ·obtain ⟨v,hv⟩:=Q _ ((P a b).1 hb);exact hK _ (by rw [hv];simp)
  ·have a6:A.length<=K.length:=gg W λx J=>by obtain ⟨v,hv⟩:=Q x J;exact hK _ (by rw [hv];simp)
   exact Wl (X a) a6
 ·refine ⟨_,rfl,nZ,rfl,λ_=> ?_,λhc=>(by cases hc)⟩;refine ⟨_,a5,Bk n,rfl,?_⟩;refine h.var (by simp [ak]) (λb3 G3 F6 l3 a7 h=> ?_) rfl rfl;have a2:=aa l2 l3;have a9:=a2 _ _ b0;have c0:∀{C I:PH} {As:List (Ψ)},G3.le C->St C I As->I.cell (od (pd b3 0 nC) (pc (0:Int)*1))=mB (vi n.1):=λl h=>by rw [aJ];exact ld (h.le _ _ (l _ _ a7)) rfl
  have O:∀{C I:PH} {As:List (Ψ)},G3.le C->St C I As->I.cell (pd b14 0 nC)=mB (.map (mB M)):=λl h=>ld (h.le _ _ (l _ _ a9)) rfl;obtain ⟨s,Z,h,b8,E,b9,c2⟩:=Do n.1 l [itG gx ms r B c (A++[n]),WH M bg (V3 l)] a3 h;have h:St G3 F6 (own s 3 1 ((Vu l n.1).map vi)::itG gx ms r B c (A++[n])::WH M bg (V3 l)::Wv Z):=h;have D:=h.lookAt (i:=2) rfl Rt n.1 nS;rw [Υ YW,b8] at D;refine ⟨_,O (au _) h,by decide,by decide,_,c0 (au _) h,_,O (au _) h,by decide,by decide,_,c0 (au _) h,s,D,by decide,by decide,n.2,?_,?_⟩
  ·rw [aJ];exact ld (h.le _ _ a7) rfl
  ·have b1:s.len=(Vu l n.1).length:=by have:=(bO.rd (h.ownAt (i:=0) rfl).1).len;rw [vb,xZ] at this;exact this.symm
   have c5:=X n.1;refine h.push0 TI (c:= #[vi n.2]) rfl (by simp [ak]) (by omega) λV G4 F7 U h c6=> ?_;refine ⟨c0 U h,O U h,c0 U h,O U h,?_⟩;refine h.updAt 2 rfl Rt n.1 (nV V) λF8 h=> ?_;have a8:((n.1,V,Vu l n.1++[n.2])::Z).map (·.1)=n.1::Z.map (·.1):=rfl;refine ⟨B.size - (A++[n]).length,by rw [tT,Vc];omega,G4,A++[n],(n.1,V,Vu l n.1++[n.2])::Z,rfl,aa a2 U,?_,λx J=> ?_,?_,λa b=> ?_,λa=> ?_,[],?_⟩
   ·rw [VC];exact ⟨W,by simp,λa ha b hb e=>b6 (by rw [wa.1 hb] at e;rw [<- e];exact ha)⟩
   ·rcases vl.1 J with J|J
    ·exact Q x J
    ·rw [wa.1 J];exact ⟨v,b7⟩
   ·rw [a8,Wx];exact ⟨c2,b9.nodup a3⟩
   ·by_cases e:a=n.1
    ·rw [nH e,vl,wa,vl,wa,e,P];exact or_congr_right ⟨λh=>by rw [h],λh=>congrArg Prod.snd h⟩
    ·rw [kU e,(E a e).2,P,vl,wa];exact ⟨.inl,λh=>h.resolve_right λh=>e (congrArg Prod.fst h)⟩
   ·have:=X a;by_cases e:a=n.1
    ·rw [nH e,tT,tT,Vc,Vc];omega
    ·rw [kU e,(E a e).2,tT];omega
   ·have em:(λk'=>if k'=n.1 then mB (nV V) else V3 l k')=V3 ((n.1,V,Vu l n.1++[n.2])::Z):=by
     funext k';by_cases e:k'=n.1
     ·rw [Χ e,rH e]
     ·rw [Υ e,nG e,(E k' e).1]
    rw [em] at h;have h2:=h.back2;rw [yD];have e3:Wv ((n.1,V,Vu l n.1++[n.2])::Z)=own V 3 1 ((Vu l n.1).map vi++[vi n.2])::Wv Z:=by unfold Wv;rw [xV,yO];rfl
    rw [e3];exact h2
end
theorem yC {g:Type} (k:Nat) (S:g->Tr):∀keys:List g,mu k keys S<=keys.length*2 ^ k
 |[]=>yM _
 |x::l=>by
  have:=yC k S l;have e:mu k (x::l) S=(2 ^ k - wt k (S x))+mu k l S:=by unfold mu;rw [xV,List.sum_cons]
  rw [e,wo,Wa,Wk,XM];exact Nat.add_le_add this (Nat.sub_le _ _)
theorem RdS.at6 {F:PH} {s:Sl} {vs:Ξ} (h:RdS F s 1 vs) {i:Nat} {v:ξ} (hi:vs[i]? =mB v):∃a,s.qa5=mB a/\0<=(i:Int)/\(i:Int)<(s.len:Int)/\F.cell (od a (pc (i:Int)*1))=mB v:=by obtain ⟨g,rfl⟩:=N6.1 hi;have A:=h.len;obtain ⟨b,o,w,r⟩:=h.cells (by omega);refine ⟨_,w,by omega,by omega,?_⟩;rw [N4,xZ,aJ];exact r i g
theorem Mg {G B F:PH} {As:List (Ψ)} {m i:Nat} {S:Int->Tr} (h:St G F As) (hi:As[i]? =mB (mS bg B m S)) (C:B.le G) (n:Int):∃w,s9 prog (Instr.lookup 170 (.map (mB m)) (vi n) nS) F (oc w)/\DV G w (ph (S n)):=by
 obtain ⟨o,mp,H,D,E⟩:=h.mS_at hi;have g:=bL (F:=F) Ig H D n nS;rcases E n with ⟨r,A⟩|⟨w,r,A⟩
 ·rw [r] at g;exact ⟨zD,g,by rw [A];exact DV.mk (s:=pk) (d:=ph (qa6 nS)) (RL.nil G)⟩
 ·rw [r] at g;exact ⟨w,g,A.le C⟩
section
variable {G F:PH} {g:Gr} {k ms mn ban b4 b14:Nat} {T:Int×Int->Tr} {nx:Int->Φ} {R:VR}
theorem UT {K:List (Int×Int)} (Y:OkK g k) (hn:g.qa1.length<=1000000) (b1:AnV G ban g) (E:CyE G b14 mn b4 ms nx T) (U:yt k g.qa0 (bI g) T) (h1:∀a b,T (a,b)≠qa6 nS->b∈nx a) (h2:∀a b,b∈nx a->(a,b)∈K) (h3:∀a,(nx a).length<=K.length) (b0:K.length<=1000000)
  (h:St G F []) (fin:∀I W N C,G.le I->uj k g.qa1.length g.qa0 (bI g) C->St I W [mG bg (tN g.qa1.length) I N C]->R (.map (mB N)) W):
  vN (mB (pd ban 0 nC)) b4 b14 R F:=by
 obtain ⟨_,_,TI⟩:=Rs;obtain ⟨c,n,t,s,p,lv,f,q,qa,hs,hq⟩:=b1.ex;have es:=hs.s.len;have a4:DV G #[n.v,vi g.fam.2] (ph (vf g.fam)):=by rw [<- Y.fam.2];exact DV.mk hs.n
 have J:∀a,∀m∈nx a,m∈K.map (·.2):=λa m hm=>xR.2 ⟨_,h2 a m hm,rfl⟩;have c7:(K.map (·.2)).length*2 ^ k<=64000000:=by rw [vb];have:2 ^ k<=64:=Wl (Wi (by decide) Y.le) (by decide);exact Wl (YB b0 this) (by decide)
 unfold vN;refine h.new λN F1 h=> ?_;have h:=h.mG_new bg (tN g.qa1.length);refine ⟨_,rfl,_,by rw [aJ];exact ld (h.le _ _ qa) rfl,?_⟩
 refine bC (A5 · (pd ban 0 nC) b4 b14 N s R) g.qa1.length (λi W=>∃(I:PH) (C:Int->Tr),G.le I/\Sxs k C/\(∀(a:Nat) c,a<i->((C a).ev c=nZ↔Tg (WD g.qa0 (bI g) c) a a))/\(∀a:Nat,i<=a->C a=qa6 nS)/\
  ∃Bs,St I W (mG bg (tN g.qa1.length) I N C::Bs)) ⟨G,_,au _,λ_=>Sx.qa6 k nS,λa c V=>by omega,λ_ _=>rfl,[],h⟩ ?_
 rintro i F2 N1 hi ⟨G2,C,l2,hC,Q,P,Bs,h⟩ next;have h:=h.hd;have E2:=E.le l2;unfold A5;refine ⟨λB=> ?_,λc6=> ?_⟩
 ·have B:i<g.qa1.length:=by omega
  obtain ⟨sn,b6,b8⟩:=E2.look h.le (i:Int);have c8:=b8.len;refine ⟨_,ld (h.le _ _ E2.q14) rfl,sn,b6,λh0=> ?_,λh0=> ?_⟩
  ·have e0:nx (i:Int)=[]:=VT (by omega);unfold vM;rw [aD B];refine next _ B ⟨G2,C,l2,hC,λa c V=> ?_,λa V=>P a (by omega),[],h⟩;by_cases e:a=i
   ·subst e;rw [P a (tI _)];refine ⟨λh=>(by cases h),λtg=> ?_⟩;obtain ⟨d,hd⟩:=tg.head;have:=(U.iff ((a:Int),d) c).2 hd;have a3:=h1 a d λe=>by rw [e] at this;cases this
    rw [e0] at a3;cases a3
   ·exact Q a c (by omega)
  ·refine h.new λmr F3 h=> ?_;have h:=h.toMap bg;refine h.var1 λd0 G3 F4 l3 a7 h=> ?_;refine h.new λr F5 h=> ?_;have h:=h.imp (A':=VG 3 (tX (mB (pd r 0 nC)) 0 0) []) 0 rfl λH _ hH=>FG hH;refine h.new λa6 F6 h=> ?_;refine h.set0 (w':= #[nV (tX (mB (pd r 0 nC)) 0 0)]) (vp rfl) rfl λF7 h=> ?_;have M:=aa l2 l3;refine ⟨#[n.v,vi g.fam.2],rfl,by rw [aJ];exact fZ (h.le _ _ (M _ _ qa)) rfl,?_⟩;have h:St G3 F7 (mS bg G3 mr (λ_=>qa6 nS)::pt a6 (mX #[nV (tX (mB (pd r 0 nC)) 0 0)] 76)::VG 3 (tX (mB (pd r 0 nC)) 0 0) (([]:Φ).map vi)::[mG bg (tN g.qa1.length) G2 N C]):=
    (h.front2).imp 0 rfl λ_ _ hH=>mS.le hH l3
   refine (ox (keys:=K.map (·.2)) Y.le (E.le M) a7 U.sx Y.fam.1 (a4.le M) (λ_=>Sx.qa6 k nS) (λm=>h1 _ m) (λm=>J _ m) (by have:=h3 i;omega) (by simp) h).mono ?_;rintro _ F8 ⟨G4,R4,ps,b2,rfl,l4,hv,h⟩;have b3:=aa M l4;refine ⟨rfl,?_⟩;have c5:=yC k (λ_:Int=>qa6 nS) (K.map (·.2))
   refine ⟨λq W=>∃(I:PH) (R':Int->Tr) (D:Φ) (a1:Sl),q=mu k (K.map (·.2)) R'+D.length/\G4.le I/\q<=64000000/\Bfs k g.qa0 (bI g) T (vf g.fam) i R' D/\
    St I W (mS bg I mr R'::pt a6 (mX #[nV a1] 76)::VG 3 a1 (D.map vi)::[mG bg (tN g.qa1.length) G2 N C]),_,⟨G4,R4,ps,b2,rfl,au _,by have:=hv.mu;omega,Bfs.start U hv,h⟩,?_⟩
   rintro q F9 ⟨G5,R5,D,A,rfl,l5,c3,X,h⟩;have b7:=aa b3 l5;have L:=l5 _ _ (l4 _ _ a7);have O:=h.queAt (i:=2) rfl;have Z:=O.len;rw [vb,xZ] at Z;have b5:=O.cap;unfold Ic;refine ⟨_,ld (h.ptAt (i:=1) rfl) rfl,λc4=> ?_,λhz=> ?_⟩
   ·cases D with
    |nil=>rw [WZ] at Z;omega
    |cons m D=>
     obtain ⟨a,g1,g2,g3,g4⟩:=O.at6 (i:=0) (v:=vi m) rfl;refine ⟨_,ld (h.ptAt (i:=1) rfl) rfl,a,g1,g2,g3,m,g4,_,ld (h.ptAt (i:=1) rfl) rfl,by omega,b5,?_⟩;refine h.set1 (w':= #[nV (xy A 1 1 A.len A.cap)]) (vp rfl) rfl λc2 h=> ?_;have h:=h.imp (A':=VG 3 (xy A 1 1 A.len A.cap) (D.map vi)) 2 rfl λH _ hH=>Ma hH;rw [wo] at c3;refine ⟨λc9=> ?_,λhe=> ?_⟩
     ·obtain ⟨w,b9,hw⟩:=Mg h (i:=0) rfl (au _) m;refine ⟨_,ld (h.le _ _ L) rfl,w,b9,?_⟩;refine (ox (keys:=K.map (·.2)) Y.le (E.le b7) L U.sx (X.sx m) hw X.sx (λm'=>h1 _ m') (λm'=>J _ m') (by have:=h3 m;omega) (by omega) h).mono ?_;rintro _ a8 ⟨G6,R6,a0,a9,rfl,l6,a2,h⟩;have:=a2.mu;exact ⟨rfl,_,by rw [wo];show mu k (K.map (·.2)) R6+(D++a0).length<_;rw [tT];omega,G6,R6,D++a0,a9,rfl,aa l5 l6,by rw [tT];omega,X.visit U a2,h⟩
     ·have he:m=(i:Int):=by simpa using he
      subst he;exact ⟨_,by rw [wo];show mu k (K.map (·.2)) R5+D.length<_;omega,G5,R5,D,_,rfl,l5,by omega,X.skip,h⟩
   ·have e0:D=[]:=VT (by omega);subst e0;unfold Ib;refine ⟨_,ld (h.le _ _ L) rfl,?_⟩;refine (lQ h (au _) (i:Int)).mono ?_;rintro _ c2 ⟨G6,w,rfl,hw,l6,h⟩;refine ⟨w,rfl,?_⟩;have a5:G2.le G6:=aa l3 (aa l4 (aa l5 l6));refine h.mG_put Ig yv 3 rfl a5 (wh (Ii B)) hw λa8 h=> ?_;unfold vM;rw [aD B];refine next _ B ⟨G6,_,aa l2 a5,hC.upd (X.sx _),λa c V=> ?_,λa V=> ?_,_,h.front3⟩
    ·unfold jX;by_cases e:a=i
     ·rw [Χ (by rw [e]),e];exact X.fin U (λa b c=>Y.stp_fam) c
     ·rw [Υ (by omega)];exact Q a c (by omega)
    ·unfold jX;rw [Υ (by omega)];exact P a (by omega)
 ·have e:i=g.qa1.length:=by omega
  subst e;unfold Ia;exact fin G2 F2 N C l2 ⟨hC,λa c V=>Q a c V⟩ h
end
section
variable {G F:PH} {g:Gr} {k:Nat}
theorem dk (h:OkG g):g.qa0.length<=2000/\g.qa1.length<=2000/\g.qa2.length<=256/\∀x∈g.qa0,x.right.length<=16:=by have r:=h.large;unfold dQ at r;rw [Bool.or_eq_false_iff,List.any_eq_false] at r;have:=ι r.1;refine ⟨by omega,by omega,by omega,λx A=> ?_⟩;have w:=r.2 x A;rw [δ] at w;omega
theorem qhU {A:Nat} (D:OkK g k) (w:AnV G A g) (h:St G F []):
  ν 80 #[pj (mB ⟨A,0,nC⟩)] F λr F'=>∃O J C,r=.map (mB J)/\G.le O/\uj k g.qa1.length g.qa0 (bI g) C/\St O F' [mG bg (tN g.qa1.length) O J C]:=by
 obtain ⟨o1,o2,o3,V⟩:=dk D.ok;have R:∀x∈g.qa0,x.right.length<=1000000:=λx X=>by have:=V x X;omega
 have B:(iO g.qa0).length<=1000000:=by have:=FF V;omega
 refine qgE ?_;unfold UA;refine (qha D R (by omega) w h).mono ?_;rintro _ F1 ⟨G1,a1,N,rfl,U,P,h⟩;refine ⟨_,rfl,?_⟩;refine h.new λms F2 h=> ?_;have h:=h.mG_new gx (iO g.qa0);refine h.var1 λb4 G2 F3 I q4 h=> ?_;obtain ⟨c,n,t,s,p,lv,f,q,W,hs,hq⟩:=(w.le (aa U I)).ex;refine ⟨_,rfl,_,by rw [aJ];exact ld (h.le _ _ W) rfl,?_⟩;refine UN D P.sx I R (by omega) hs.p ⟨c,n,t,s,p,lv,f,W⟩ hq q4 (h.imp 0 rfl λ_ _ K=>mG.le K I) λG3 F4 Q h=> ?_;obtain ⟨G4,M,⟨H,⟨o,mp,e1,⟨es,cc,L,rfl,hL⟩,e3,e4⟩,K⟩,h⟩:=h.pin;refine US (M _ _ (Q _ _ q4)) (K _ _ e1) hL (e3.le M) e4 B h λG5 F5 a0 mn nx l5 E5 g1 g2 Y h=> ?_;have E:=aa U (aa I (aa Q (aa M l5)));refine UT D (by omega) (w.le E) E5 (L9 P D.prs) g1 g2 Y B h λG6 F6 J C l6 Z h=> ?_;exact ⟨G6,J,C,rfl,aa E l6,Z,h⟩
end
