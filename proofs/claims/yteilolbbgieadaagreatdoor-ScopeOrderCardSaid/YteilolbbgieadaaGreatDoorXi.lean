/-
  ScopeOrder: the walk.
-/
import Derived.Test.YteilolbbgieadaaGreatDoorZi
set_option maxRecDepth 10000
open Option renaming some->V,none->I
open Go.Obj renaming cells->Y
open Bool renaming false->mD,true->nk
open Go.Value renaming agg->nQ,bool->nW,int->rV,string->ph,tuple->po,slice->tX
open Go.Addr renaming add->nV,mk->oB
open Int renaming toNat->nX,tmod->sj
open Array renaming setIfInBounds->tC
namespace Go.Proofs.YteilolbbgieadaaGreatDoor
open Go.IntKind (i64 u8 u64)
open Sl renaming v->nI,nil->pm
open Go Go.Proofs.Tryz
structure Gwc where
 g:Gr
 cs:Sl
 n:Sl
 tk:Sl
 s:Sl
 p:Sl
 lv:Sl
 f:Sl
 c:Int
 l:Sl
 L:Δ
 hi:Sl
 H:Δ
abbrev Gwc.arr (w:Gwc) (a:Nat) (o:Sl):Γ:= #[w.cs.v,w.n.v,U w.g.fam.2,w.tk.v,w.s.v,w.p.v,U w.g.start,w.lv.v,w.f.v,rV .u64 w.c,w.l.v,U (a:Int),w.hi.v,o.v]
abbrev Gwc.gv (w:Gwc):Γ:=w.g.arr w.cs w.n w.tk w.s w.p w.lv w.f
structure GwO (G:PH) (w:Gwc) (k:Nat):Prop where
 gs:GS G w.g w.cs w.n w.tk w.s w.p w.lv w.f
 ok:OkK w.g k
 fam:(vi w.g.fam).ev (wu w.c)=nk
 c0:0<=w.c
 c1:w.c<18446744073709551616
 l:RdS G w.l 1 (w.L.map vB)
 hi:RL G w.hi (Vj w.H)
 hts:Hts w.g w.c w.H
 l9:w.L.length<=1000
theorem GwO.le {G g:PH} {w:Gwc} {k:Nat} (h:GwO G w k) (l:G.le g):GwO g w k:=⟨h.gs.le l,h.ok,h.fam,h.c0,h.c1,h.l.le l,h.hi.le l,h.hts,h.l9⟩
theorem GwO.gv {G:PH} {w:Gwc} {k:Nat} (h:GwO G w k):GV G w.gv w.g:=⟨_,_,_,_,_,_,_,rfl,h.gs⟩
abbrev GB (bx:Nat) (w:Gwc) (a:Nat) (o:Sl) (As:List (Ψ)):List (Ψ):=pt bx (Y (w.arr a o) 158)::As
section
variable {F G:PH} {w:Gwc} {k bx a:Nat} {o:Sl} {As:List (Ψ)}
theorem jx {n:Int} (A:GwO G w k) (M:∀b∈w.L,b<256) (P:1<=n) (h:St G F (GB bx w a o As)):
  ν 101 #[Pp bx,U n] F λr K=>∃v C,r=U v/\0<=v/\v<n/\a<=C/\St G K (GB bx w C o As):=by
 have J:=A.l.len;rw [ub,xF] at J;have H:=A.l9;refine UO ?_;unfold Ot;refine ⟨_,rfl,_,h.ld0 (i:=11) rfl,_,h.ld0 (i:=10) rfl,λ_=>⟨0,a,rfl,Vd _,by omega,ru _,h⟩,λg=>⟨λg=>by omega,λ_=>⟨_,h.ld0 (i:=11) rfl,?_⟩⟩⟩;have g:a<w.L.length:=by omega
 refine h.set0 (w':=w.arr (a+1) o) (vr rfl) (by rw [aJ (by omega)];rfl) λO h=> ?_;refine ⟨_,h.ld0 (i:=10) rfl,_,h.ld0 (i:=11) rfl,?_⟩;have e:i64.wrap (((a+1:Nat):Int) - 1)=(a:Int):=by rw [aJ (by omega)];omega
 dsimp only;rw [e];obtain ⟨Q,R,D,_⟩:=A.l.cells (by omega);have B:=(A.l.le h.le).cell D (i:=a) (by rw [ub];omega);rw [Yn] at B;refine ⟨_,D,by omega,by omega,((w.L[a]:Nat):Int),?_,by omega,?_⟩
 ·rw [N4,xF];exact B
 ·have E:=M _ (Vc g);have N:i64.wrap ((w.L[a]:Nat):Int)=((w.L[a]:Nat):Int):=aJ (by omega);rw [N];exact ⟨_,a+1,rfl,Int.tmod_nonneg _ (by omega),Int.tmod_lt_of_pos _ (by omega),by omega,h⟩
theorem ib {x:Tk} {v:Γ} (D:Mem.rep F x v) {st:ο} (A:st.size<=100000):ν 88 #[nQ v,ph st] F λr H=>(∃b,r=nW b)/\F.le H:=by obtain ⟨p,n,rfl,E,_⟩:=D;refine qgW ?_;unfold UJ;refine (St.start F).newG λL K J B q2 _ h=> ?_;have g:=h.le _ _ q2;refine ⟨_,ld g rfl,λ_=>⟨_,ld g rfl,⟨_,rfl⟩,aa B h.le⟩,λ_=>⟨_,ld g rfl,?_⟩⟩;refine (qg5 (RL.nds.1 (E.le (aa B h.le))) st A).mono ?_;rintro r F2 ⟨⟨q,rfl,_⟩,C⟩;exact ⟨_,rfl,⟨_,rfl⟩,aa B (aa h.le C)⟩
theorem qhP {v:Γ} {g:Gr} {c:Int} (hg:GV F v g) (O:OkK g k) (c0:0<=c) (c1:c<18446744073709551616) {st:ο} (R:st.size<=100000):ν 103 #[nQ v,rV .u64 c,ph st] F λr E=>(∃b,r=nW b)/\F.le E:=by
 obtain ⟨o1,o2,o3,o4⟩:=dm O.ok;obtain ⟨cs,n,t,s,p,l,f,rfl,hs⟩:=hg;have et:=hs.t.len;refine qcH ?_;unfold Ow;refine (St.start F).newG λb3 G1 F1 l1 q3 _ h=> ?_;refine bD (vN · c st b3 _) g.qa2.length (λ_ E=>∃K,G1.le K/\St K E []) ⟨G1,au _,h⟩ ?_;rintro j F2 N hj ⟨G2,l2,h⟩ next;have C:=aa l1 l2;have L:=h.le _ _ (l2 _ _ q3);unfold vN;refine ⟨t,ld L rfl,λB=> ?_,λa2=> ?_⟩
 ·have B:j<g.qa2.length:=by omega
  refine ⟨t,ld L rfl,?_⟩;refine t8 (hs.t.le C) (by decide) (by omega) (by omega) λa cc x W M H=>⟨_,Mem.len H,aN h.le M,?_⟩;rw [N4] at W;have a3:=Mem.len H;refine h.var (Mem.st H) (λb8 G3 F3 Q q8 h=> ?_) rfl (Mem.len H);have a0:=Mem.le Q H;obtain ⟨pp,nn,rfl,hp,hn⟩:=id H;have X:=aa C Q;have J:=h.le _ _ q8;have A:∀{K E:PH},G3.le K->St K E []->N (i64.wrap ((j:Int)+1)) E:=λl h=>by rw [aC B];exact next _ B ⟨_,aa l2 (aa Q l),h⟩
  refine ⟨_,ld J rfl,λ_=> ?_,λ_=>A (au _) h⟩;have ed:eI g (j:Int)=vi x.cond:=by unfold eI;rw [N4,W]
  have td:=(O.tok (vO W)).2;have sm:=(O.tkd (j:Int)).small O.le;have a1:DV G3 #[nn.v,U x.cond.2] (pj (eI g (j:Int))):=by rw [ed,<- td];exact DV.mk (hn.le Q)
  refine ⟨#[nn.v,U x.cond.2],rfl,ga J rfl,?_⟩;refine h.runv (pC a1 sm.1 sm.2 c0 c1) λG4 F4 D h=>⟨_,rfl,λ_=>⟨λ_=>⟨_,rfl,ai (h.le _ _ (D _ _ q8)),?_⟩,λ_=>A D h⟩,λ_=>A D h⟩;refine h.run (P:=λr _=>∃b,r=nW b) (ib (Mem.le D a0) R) λr G5 F5 hr l5 h=> ?_;obtain ⟨b,rfl⟩:=hr;refine ⟨_,rfl,λ_=>⟨⟨_,rfl⟩,aa X (aa D (aa l5 h.le))⟩,λ_=>A (aa D l5) h⟩
 ·exact ⟨⟨_,rfl⟩,aa C h.le⟩
abbrev Yt (l:List ByteArray):Ξ:=l.map ph
theorem lK (hw:GwO G w k) (hL:∀b∈w.L,b<256) (h:St G F (GB bx w a o As)):
  ν 74 #[Pp bx] F λr C=>∃s l g D,r=nI s/\RL g s l/\(∀x∈l,ByteArray.size x<=4)/\l.length<=3/\G.le g/\a<=D/\St g C (GB bx w D o As):=by
 refine qgV ?_;unfold UI;refine (jx hw hL (n:=12) (by decide) h).mono ?_;rintro _ F1 ⟨v,a1,rfl,v0,v1,ha,h⟩;refine ⟨_,rfl,?_⟩;have h:=(h.push (A:=own pm 9 1 (Yt [])) (H:=λ_=>I) (.inl ⟨rfl,rfl⟩) (λb hb=>absurd rfl hb) (λb o hb=>by cases hb) (au _)).swap;refine ⟨λm K z C=>∃(g:PH) (l:List ο) (D:Nat),z<=11/\m=(z - 9).toNat/\l.length+(z - 9).toNat<=2/\(∀x∈l,ByteArray.size x<=4)/\G.le g/\a<=D/\St g C (GB bx w D o (own K 9 1 (Yt l)::As)),(v - 9).toNat,⟨G,[],a1,by omega,rfl,by show 0+_<=2;omega,λx hx=>(by cases hx),au _,ha,h⟩,?_⟩;rintro _ K z F2 ⟨G2,l,a2,z1,rfl,z2,R,l2,Q,h⟩;unfold Ih;refine ⟨λhz=> ?_,λhz=> ?_⟩
 ·refine h.newG λP G3 F3 N X _ h=> ?_;refine (jx (hw.le (aa l2 N)) hL (n:=3) (by decide) h).mono ?_;rintro _ F4 ⟨n,a3,rfl,n0,n1,a0,h⟩;have B:∃x:ο,x.size<=4/\F4.cell (nV (oB P 0 I) (nX n*1))=V (ph x):=by
   have q:=h.le _ _ X;have e:n=0\/n=1\/n=2:=by omega
   rcases e with rfl|rfl|rfl
   ·exact ⟨_,by decide,ld q (i:=0) rfl⟩
   ·exact ⟨_,by decide,ld q (i:=1) rfl⟩
   ·exact ⟨_,by decide,ld q (i:=2) rfl⟩
  obtain ⟨x,hx,B⟩:=B;refine ⟨_,rfl,_,rfl,n0,n1,x,B,_,rfl,w.gv,rfl,h.row0 (o:=0) rfl,w.c,h.ld0 (i:=9) rfl,?_⟩;have M:=aa l2 N;have E:=hw.le M;have j2:∀{g C:PH} {O:Sl} {l':List ο},G3.le g->l'.length+(z - 10).toNat<=2->(∀x∈l',ByteArray.size x<=4)->St g C (GB bx w a3 o (own O 9 1 (Yt l')::As))->vL (λy0 y1 F=>∃m',m'<(z - 9).toNat/\(λ(m:Nat) (K:Sl) (z:Int) (C:PH)=>∃(g:PH) (l:List ο) (D:Nat),z<=11/\m=(z - 9).toNat/\l.length+(z - 9).toNat<=2/\(∀x∈l,ByteArray.size x<=4)/\G.le g/\a<=D/\St g C (GB bx w D o (own K 9 1 (Yt l)::As))) m' y0 y1 F) (V (oB bx 0 I)) z O (λr C=>∃s l g D,r=nI s/\RL g s l/\(∀x∈l,ByteArray.size x<=4)/\l.length<=3/\G.le g/\a<=D/\St g C (GB bx w D o As)) C:=λ{g C O l'} l h1 h2 h=>by unfold vL;rw [aJ (by omega)];exact ⟨(z - 1 - 9).toNat,by omega,g,l',a3,by omega,rfl,by omega,h2,aa M l,by omega,h⟩
  refine (qhP (E.gv.le h.le) E.ok E.c0 E.c1 (by omega)).mono ?_;rintro _ F5 ⟨⟨b,rfl⟩,l5⟩;have h:=h.up l5;refine ⟨_,rfl,λ_=> ?_,λ_=>j2 (au _) (by omega) R h⟩;refine h.push1 qcX (c:= #[ph x]) rfl (by simp [ak]) (by have:=(h.ownAt (i:=1) rfl).1.rd.len;rw [ub] at this;omega) λO G6 F6 l6 h _=> ?_;refine j2 (l':=l++[x]) l6 (by rw [tT];show _+1+_<=2;omega) (λy J=> ?_) ?_
  ·rcases vj.1 J with J|J
   ·exact R y J
   ·rw [vu] at J;subst J;exact hx
  ·rw [show Yt (l++[x])=Yt l++(#[ph x]:Γ).toList by unfold Yt;rw [yW];rfl];exact h
 ·unfold Ig;obtain ⟨G3,N,W,h⟩:=h.swap.pinO;exact ⟨K,l,G3,a2,rfl,RL.strs.2 W,R,by omega,aa l2 N,Q,h⟩
end
def VL (w:Gwc) (a n:Nat):Prop:=w.L.length<=a\/40<n
noncomputable abbrev WZ (w:Gwc) (p:Nat):Nat:=hgt (WR w.g w.c) (VG w.g) w.H p
structure ChI (w:Gwc) (left p:Nat) (al:Δ) (best:Int):Prop where
 mem:∀q∈al,q<w.g.qa0.length/\VN w.g q=left/\WZ w q<1000
 cm:∀q,q<p->VN w.g q=left->WZ w q<1000->q∈al
 len:al.length<=p
 b0:best= -1\/∃q:Nat,best=q/\q<w.g.qa0.length/\VN w.g q=left/\WZ w q=w.H.getD left 0
 bc:∀q,q<p->VN w.g q=left->WZ w q=w.H.getD left 0->best≠-1
theorem ChI.init {w:Gwc} {left:Nat}:ChI w left 0 [] (-1):=⟨λq h=>(by cases h),λq h=>(by omega),ru _,.inl rfl,λq h=>(by omega)⟩
section
variable {w:Gwc} {left p:Nat} {al:Δ} {best:Int}
theorem ChI.skip (h:ChI w left p al best) (r:VN w.g p≠left\/1000<=WZ w p) (D:w.H.getD left 0<1000):ChI w left (p+1) al best:=by
 refine ⟨h.mem,λq C A B=> ?_,Nat.le_succ_of_le h.len,h.b0,λq C A B=> ?_⟩
 ·by_cases e:q=p
  ·subst e;rcases r with r|r
   ·exact absurd A r
   ·omega
  ·exact h.cm q (by omega) A B
 ·by_cases e:q=p
  ·subst e;rcases r with r|r
   ·exact absurd A r
   ·omega
  ·exact h.bc q (by omega) A B
theorem ChI.take (h:ChI w left p al best) (D:p<w.g.qa0.length) (C:VN w.g p=left) (E:WZ w p<1000) {r:Int} (B:(WZ w p=w.H.getD left 0/\best<0/\r=p)\/((WZ w p≠w.H.getD left 0\/¬best<0)/\r=best)):ChI w left (p+1) (al++[p]) r:=by
 refine ⟨λq A=> ?_,λq A a b=> ?_,by rw [tT];have:=h.len;show _+1<=_;omega,?_,λq A a b=> ?_⟩
 ·rcases vj.1 A with A|A
  ·exact h.mem q A
  ·rw [vu] at A;subst A;exact ⟨D,C,E⟩
 ·by_cases e:q=p
  ·subst e;simp
  ·exact vj.2 (.inl (h.cm q (by omega) a b))
 ·rcases B with ⟨a,_,rfl⟩|⟨_,rfl⟩
  ·exact .inr ⟨p,rfl,D,C,a⟩
  ·exact h.b0
 ·rcases B with ⟨_,_,rfl⟩|⟨B,rfl⟩
  ·omega
  ·by_cases e:q=p
   ·subst e;rcases B with B|B
    ·exact absurd b B
    ·omega
   ·exact h.bc q (by omega) a b
end
section
variable {F G:PH} {w:Gwc} {k bx a:Nat} {o:Sl} {As:List (Ψ)}
theorem qhq {left:Nat} (C:GwO G w k) (hL:∀b∈w.L,b<256) (hl:left<w.g.qa1.length) (hH:w.H.getD left 0<1000) (h:St G F (GB bx w a o As)):
  ν 102 #[Pp bx,U (left:Int)] F λr O=>∃p a' J,r=U ((p:Nat):Int)/\p<w.g.qa0.length/\VN w.g p=left/\WZ w p<1000/\(VL w a o.len->WZ w p=w.H.getD left 0)/\a<=a'/\G.le J/\St J O (GB bx w a' o As):=by
 obtain ⟨o1,o2,o3,o4⟩:=dm C.ok.ok;have ep:=C.gs.p.len;have a9:=C.hts.hf.len;have a1:=C.hts.cap;have c5:=C.hi.len;rw [ub] at c5;refine UP ?_;unfold Ou;have h:=(h.push (A:=own pm 3 1 ((Vj []).map U)) (H:=λ_=>I) (.inl ⟨rfl,rfl⟩) (λb X=>absurd rfl X) (λb o X=>by cases X) (au _)).swap;refine ⟨λm al D q O=>∃(p:Nat) (J:PH) (l:Δ),q=p/\p<=w.g.qa0.length/\m=w.g.qa0.length - p/\ChI w left p l D/\G.le J/\St J O (GB bx w a o (own al 3 1 ((Vj l).map U)::As)),w.g.qa0.length,⟨0,G,[],rfl,yA _,rfl,.init,au _,h⟩,?_⟩;rintro _ al D _ F1 ⟨p,G1,l,rfl,hp,rfl,M,l1,h⟩;unfold Di;refine ⟨_,rfl,_,h.ld0 (i:=5) rfl,λE=> ?_,λc8=> ?_⟩
 ·have E:p<w.g.qa0.length:=by omega
  have hx:w.g.qa0[p]? =V w.g.qa0[p]:=N5 E;generalize w.g.qa0[p]=x at hx;have b4:VN w.g p=x.left.toNat:=by unfold VN;rw [hx];rfl
  obtain ⟨_,_,⟨a8,c6,_⟩,_⟩:=C.ok.prod (vO hx);have a8:0<=x.left:=a8;have P:=C.le l1;refine ⟨w.gv,rfl,h.row0 (o:=0) rfl,w.c,h.ld0 (i:=9) rfl,w.hi,h.ld0 (i:=12) rfl,?_⟩;refine h.runv (oE P.gv C.ok C.fam C.c0 C.c1 hx P.hi a9 a1) λG2 F2 l2 h=>⟨_,rfl,_,h.ld0 (i:=5) rfl,?_⟩;have K:=aa l1 l2;refine t8 ((P.le l2).gs.p.le h.le) (by decide) (by omega) (by omega) λd3 cc x' a6 a5 hc=> ?_;rw [N4,hx] at a6;cases a6;obtain ⟨rr,n2,l9,rfl,_⟩:=hc;refine ⟨x.left,aM a5 (i:=1) rfl,?_⟩;have j2:∀{J O:PH} {a0:Sl} {l':Δ} {B:Int},G2.le J->ChI w left (p+1) l' B->St J O (GB bx w a o (own a0 3 1 ((Vj l').map U)::As))->∃m',m'<w.g.qa0.length - p/\(λ(m:Nat) (al:Sl) (D q:Int) (O:PH)=>∃(p:Nat) (J:PH) (l:Δ),q=p/\p<=w.g.qa0.length/\m=w.g.qa0.length - p/\ChI w left p l D/\G.le J/\St J O (GB bx w a o (own al 3 1 ((Vj l).map U)::As))) m' a0 B (i64.wrap ((p:Int)+1)) O:=λ{J O a0 l' B} l h1 h=>by rw [aC E];exact ⟨_,by omega,p+1,J,l',rfl,by omega,rfl,h1,aa K l,h⟩
  unfold jy;refine ⟨λR=>j2 (au _) (M.skip (.inl (by rw [b4];omega)) hH) h,λd4=>⟨λb6=>j2 (au _) (M.skip (.inr (by show 1000<=hgt _ _ _ _;omega)) hH) h,λb1=> ?_⟩⟩;have h1:VN w.g p=left:=by rw [b4];omega
  have h2:WZ w p<1000:=by show hgt _ _ _ _<1000;omega
  refine h.push1 sG (c:= #[U (p:Int)]) rfl (by simp [ak]) (by have:=(h.ownAt (i:=1) rfl).1.rd.len;rw [ub,ub] at this;have:=M.len;omega) λc3 G3 F3 l3 h _=> ?_;have h:St G3 F3 (GB bx w a o (own c3 3 1 ((Vj (l++[p])).map U)::As)):=by rw [show (Vj (l++[p])).map U=(Vj l).map U++(#[U (p:Int)]:Γ).toList by unfold Vj;rw [yW,yW];rfl];exact h
  refine ⟨_,h.ld0 (i:=12) rfl,?_⟩;refine t8 ((P.le (aa l2 l3)).hi.le h.le) (by decide) (by omega) (by omega) λd0 b7 y hy Q b5=> ?_;obtain rfl:b7= #[U y]:=b5;have hy:=Be hy;rw [N4] at hy;subst hy;refine ⟨_,aE Q rfl,λhe=>⟨λX=> ?_,λX=> ?_⟩,λR=> ?_⟩
  ·exact j2 l3 (M.take E h1 h2 (.inl ⟨by show hgt _ _ _ _=_;omega,X,rfl⟩)) h
  ·exact j2 l3 (M.take E h1 h2 (.inr ⟨.inr X,rfl⟩)) h
  ·exact j2 l3 (M.take E h1 h2 (.inr ⟨.inl (by show ¬hgt _ _ _ _=_;omega),rfl⟩)) h
 ·have:p=w.g.qa0.length:=by omega
  subst this;unfold Dh;obtain ⟨G2,l2,b9,h⟩:=h.swap.pinO;have a7:=RL.ints.2 b9;obtain ⟨pb,b3,a4,c2⟩:=C.hts.hf.best left hl hH;have W:=M.bc pb b3 a4 c2;obtain ⟨q,rfl,q1,q2,q3⟩:=M.b0.resolve_left W;have R:=M.cm pb b3 a4 (by show hgt _ _ _ _<_;omega);have d1:al.len=l.length:=by have:=a7.len;rwa [ub] at this
  have c7:0<l.length:=List.length_pos_of_mem R;have c9:=M.len;have K:=aa l1 l2;refine ⟨_,rfl,_,h.ld0 (i:=11) rfl,_,h.ld0 (i:=10) rfl,λa2=> ?_,λa2=>⟨_,h.ld0 (i:=13) rfl,λb6=> ?_,λb1=> ?_⟩⟩
  ·exact ⟨q,a,G2,rfl,q1,q2,by rw [q3];exact hH,λ_=>q3,ru _,K,h⟩
  ·exact ⟨q,a,G2,rfl,q1,q2,by rw [q3];exact hH,λ_=>q3,ru _,K,h⟩
  ·have el:=C.l.len;rw [ub,xF] at el;refine (jx (C.le K) hL (n:=(al.len:Int)) (by omega) h).mono ?_;rintro _ F4 ⟨v,a3,rfl,v0,v1,b8,h⟩;refine ⟨_,rfl,?_⟩;refine t8 (a7.le h.le) (by decide) v0 v1 λd2 c4 y hy N b2=> ?_;obtain rfl:c4= #[U y]:=b2;have hm:=M.mem;rw [yw] at hy;obtain ⟨z,hz,rfl⟩:=Ze.1 hy;obtain ⟨m1,m2,m3⟩:=hm z (vO hz);refine ⟨_,aE N rfl,z,a3,G2,rfl,m1,m2,m3,λhn=> ?_,b8,K,h⟩;rcases hn with hn|hn
   ·exact absurd a2 (by omega)
   ·exact absurd b1 (by omega)
end
theorem TK:∃b z,SlT 92 137 4 b z:=⟨_,_,underlying92,qfj,qfp,rfl,by decide,by decide⟩
abbrev Tmn.key (x:Tmn):Int×Int:=(x.pr,x.tk)
structure TmO (x:Tmn):Prop where
 rl:x.rm.length<=3
 rs:∀r∈x.rm,ByteArray.size r<=4
 tl:x.tx.size<=1000
 tp:x.pr<0->0<x.tx.size
 inn:0<=x.pr->x.tx=emp/\x.rm=[]
structure GwS (g:Gr):Prop where
 n3:g.qa1.length<=3
 r5:∀x∈g.qa0,x.right.length<=5
 tk:∀(i:Nat) (x:Tk),g.qa2[i]? =V x->x.cls=0->x.lit.size<=1000/\x.smp.size<=1000/\(x.lit.size=0->0<x.smp.size)
def WF (w:Gwc) (s:Sy):Nat:=if s.t=nk then 0 else w.H.getD s.i.toNat 0
def Y2 (w:Gwc) (s:Sy):Prop:=mB w.g s/\(s.t=nk->(eI w.g s.i).ev (wu w.c)=nk)/\(s.t=mD->w.H.getD s.i.toNat 0<1000)
abbrev TM (bx:Nat) (w:Gwc) (a:Nat) (o:Sl) (vs:List Γ) (As:List (Ψ)):List (Ψ):=GB bx w a o (own o 137 4 (tZ vs)::As)
def ZE (G:PH) (bx:Nat) (w:Gwc) (_ a:Nat) (T:List Tmn) (s:Sy) (As:List (Ψ)) (F':PH):Prop:=
 ∃G' a' o' vs' m tms,G.le G'/\a<=a'/\bS G' (T++tms) vs'/\St G' F' (TM bx w a' o' vs' As)/\(tms.map Tmn.key=UQ m)/\wi w.g (wu w.c) s m/\GrR (VL w a T.length) (WF w s) T.length m/\∀x∈tms,TmO x
section
variable {F G:PH} {w:Gwc} {k bx a:Nat} {o:Sl} {As:List (Ψ)} {T:List Tmn} {vs:List Γ}
theorem CR {G F:PH} {As:List (Ψ)} {o:Sl} {e i:Nat} {vs:List Γ} {T:List Tmn} (r:bS G T vs) (h:St G F As) (hi:As[i]? =V (own o e 4 (tZ vs))):o.len=T.length:=by have g:=(h.ownAt hi).1.rd.len;rw [r.cat_len] at g;have g:T.length*4=o.len*4:=g;omega
theorem uc {g:Γ} {x:Tmn} (K:bS G T vs) (A:Mem.rep G x g) (O:T.length<=1000000) (h:St G F (TM bx w a o vs As)) {C:Ψ} (L:∀D J o' r,G.le D->bS D (T++[x]) r->o'.len=T.length+1->St D J (TM bx w a o' r As)->C J):
  ∀b,F b=I->xJ (F.set b (Y g 137)) λF=>aG prog (Builtin.append_ #[92,92] 92 #[o.v,nI (Sl.mk (V (oB b 0 I)) 1 1)]) F λv F=>∃H:Sl,v=nI H/\pv F (oB bx 13 I) (nI H) C:=by
 obtain ⟨_,_,TV⟩:=TK;have P:=CR K h (i:=1) rfl;refine h.push1 TV (c:=g) (Mem.len A) (Mem.st A) (by omega) λo' E N B h M=> ?_;refine h.set0 (w':=w.arr a o') (vr rfl) rfl λF2 h=> ?_;refine L E F2 o' (vs++[g]) B ((K.le B).append (.cons (Mem.le B A) .nil)) (by omega) ?_;show St E F2 (GB bx w a o' (own o' 137 4 (tZ (vs++[g]))::As));rw [ba,cI];exact h
theorem x7 {s:Sy} (hw:GwO G w k) (hL:∀b∈w.L,b<256) (hg:GwS w.g) (hs:Y2 w s) (Q:s.t=nk) (hr:bS G T vs) (hT:T.length<=100000) (h:St G F (TM bx w a o vs As)):
  ν 73 #[Pp bx,nQ s.arr] F λr E=>r=po #[]/\ZE G bx w k a T s As E:=by
 obtain ⟨o1,o2,o3,o4⟩:=dm hw.ok.ok;obtain ⟨⟨s0,_,s2⟩,b1,_⟩:=hs;obtain ⟨D,H,M⟩:=s2 Q;obtain ⟨g1,g2,g3⟩:=hg.tk _ _ H M;have c5:s.i.toNat<w.g.qa2.length:=(N6.1 H).1;have et:=hw.gs.t.len;refine UH ?_;unfold RQ;refine h.newG λb3 G1 F1 l1 q3 _ h=> ?_;have N:=h.le _ _ q3;refine ⟨_,ld N rfl,λ_=> ?_,λhn=>(by rw [Q] at hn;cases hn)⟩;have X:=hw.le l1;have a3:=hr.le l1;refine ⟨_,rfl,w.tk,h.ld0 (i:=3) rfl,s.i,ld N rfl,?_⟩;refine t8 X.gs.t (by decide) s0 (by omega) λc6 c9 c8 C W hc=>⟨_,Mem.len hc,aN h.le W,?_⟩;rw [H] at C;cases C;obtain ⟨pp,nn,rfl,hp,hn⟩:=id hc;refine h.var (Mem.st hc) (λb4 G2 F2 O q4 h=> ?_) rfl rfl;have R:=X.le O;have a1:=a3.le O;refine ⟨s.i,ld (h.le _ _ (O _ _ q3)) rfl,D.lit,ld (h.le _ _ q4) rfl,?_⟩;refine h.new λb5 F3 h=>h.put0 (w':= #[U (-1),U s.i,ph D.lit,tX I 0 0]) rfl rfl (by simp [ak]) λF4 h=> ?_;have h:St G2 F4 (GB bx w a o (pt b5 (Y #[U (-1),U s.i,ph D.lit,Sl.nil.v] 137)::own o 137 4 (tZ vs)::As)):=h.swap;have c2:=aa l1 O;have j1:∀{G' E:PH} {a':Nat} {B:ο},G2.le G'->a<=a'->B.size<=1000->0<B.size->St G' E (GB bx w a' o (pt b5 (Y #[U (-1),U s.i,ph B,Sl.nil.v] 137)::own o 137 4 (tZ vs)::As))->rk (oB bx 0 I) b5 (λr E=>r=po #[]/\ZE G bx w k a T s As E) E:=λ{G' E a' B} l ha b6 b7 h=>by
  unfold rk;refine (lK (R.le l) hL h).mono ?_;rintro _ F5 ⟨sr,lr,G5,a5,rfl,a4,a9,b0,l5,c4,h⟩;refine ⟨_,rfl,?_⟩;refine h.set1 (w':= #[U (-1),U s.i,ph B,sr.v]) (vr rfl) rfl λF6 h=> ?_;refine ⟨_,h.ld0 (i:=13) rfl,_,rfl,h.whole1,rfl,?_⟩;have hx:Mem.rep G5 (⟨-1,s.i,B,lr⟩:Tmn) #[U (-1),U s.i,ph B,sr.v]:=⟨sr,rfl,a4⟩;have a0:=aa l l5;refine uc (a1.le a0) hx (by omega) h.swap.tail λG7 F7 o' b9 J a7 _ h=>⟨rfl,G7,a5,o',b9,.lf s.i,[⟨-1,s.i,B,lr⟩],aa c2 (aa a0 J),by omega,a7,h,?_,?_,.qa6,λy hy=> ?_⟩
  ·rw [rK];show [((-1:Int),s.i)]=(-1,s.i)::V4 [];rw [jD]
  ·unfold wi;exact ⟨by cases s;simp at Q;subst Q;rfl,s0,by omega,b1 Q⟩
  ·rw [vu] at hy;subst hy;exact ⟨b0,a9,b6,λ_=>b7,λh=>absurd h (by show ¬(0:Int)<=-1;decide)⟩
 refine ⟨D.lit,ld (h.le _ _ q4) rfl,λhe=> ?_,λK=> ?_⟩
 ·have hz:D.lit.size=0:=by rw [mz,δ] at he;rw [he];rfl
  refine ⟨D.smp,ld (h.le _ _ q4) rfl,?_⟩;refine h.set1 (w':= #[U (-1),U s.i,ph D.smp,Sl.nil.v]) (vr rfl) rfl λF5 h=> ?_;refine (jx R hL (n:=6) (by decide) h).mono ?_;rintro _ F6 ⟨v,a6,rfl,v0,v1,c3,h⟩;refine ⟨_,rfl,?_⟩;refine h.newG λa8 G7 F7 J b8 _ h=> ?_;have A:∃x:ο,x.size<=4/\0<x.size/\F7.cell (nV (oB a8 0 I) (nX v*1))=V (ph x):=by
   have q:=h.le _ _ b8;have e:v=0\/v=1\/v=2\/v=3\/v=4\/v=5:=by omega
   rcases e with rfl|rfl|rfl|rfl|rfl|rfl
   ·exact ⟨_,by decide,by decide,ld q (i:=0) rfl⟩
   ·exact ⟨_,by decide,by decide,ld q (i:=1) rfl⟩
   ·exact ⟨_,by decide,by decide,ld q (i:=2) rfl⟩
   ·exact ⟨_,by decide,by decide,ld q (i:=3) rfl⟩
   ·exact ⟨_,by decide,by decide,ld q (i:=4) rfl⟩
   ·exact ⟨_,by decide,by decide,ld q (i:=5) rfl⟩
  obtain ⟨x,c7,b2,A⟩:=A;refine ⟨_,rfl,v0,v1,x,A,_,rfl,ai (h.le _ _ (J _ _ q4)),?_⟩;refine h.run (P:=λr _=>∃b,r=nW b) (ib (Mem.le (aa O J) hc) (by omega)) λr G8 F8 a2 l8 h=> ?_;obtain ⟨b,rfl⟩:=a2;refine ⟨_,rfl,λ_=> ?_,λ_=>j1 (aa J l8) (by omega) g2 (g3 hz) h⟩;exact h.set1 (w':= #[U (-1),U s.i,ph x,Sl.nil.v]) (vr rfl) rfl λF9 h=>j1 (aa J l8) (by omega) (by omega) b2 h
 ·refine j1 (au _) (ru _) g1 ?_ h;rw [mz,decide_eq_false_iff_not] at K;refine Nat.pos_of_ne_zero λhz=>K ?_;generalize D.lit=d at hz;obtain ⟨d⟩:=d;have:d= #[]:=Array.eq_empty_of_size_eq_zero hz;rw [this]
theorem va {w:Gwc} {s:Sy} (r:Hts w.g w.c w.H) (A:GwS w.g) (h:Y2 w s):WF w s<=3:=by
 unfold WF;cases ht:s.t with
 |true=>rw [Χ rfl];omega
 |false=>rw [Υ (by decide)];have:=h.1.2.1 ht;have:=h.1.1;have:=r.hf.le s.i.toNat (by omega) (h.2.2 ht);have:=A.n3;omega
theorem FD (hL:∀b∈w.L,b<256) (hg:GwS w.g):∀(d:Nat),d<=44->∀{G F:PH} {a:Nat} {o:Sl} {T:List Tmn} {vs:List Γ} {s:Sy},GwO G w k->Y2 w s->(VL w a T.length->WF w s<=d)->(¬VL w a T.length->44 - T.length<=d)->(T.length<=40\/T.length+300*d<=70000)->bS G T vs->St G F (TM bx w a o vs As)->
  ν 73 #[Pp bx,nQ s.arr] F λr F'=>r=po #[]/\ZE G bx w k a T s As F':=by
 intro d;induction d with
 |zero=>
  intro _ G F a o T vs s K R h1 h2 h3 hr h;by_cases C:s.t=nk
  ·exact x7 K hL hg R C hr (by omega) h
  ·exfalso;have C:s.t=mD:=by simpa using C
   have hH:=R.2.2 C;have b0:=R.1.1;have g4:=R.1.2.1 C;obtain ⟨q,q1,q2,q3⟩:=K.hts.hf.best s.i.toNat (by omega) hH;have D:1<=WZ w q:=by show 1<=hgt _ _ _ _;unfold hgt;split<;>omega
   have D:1<=hgt (WR w.g w.c) (VG w.g) w.H q:=D;by_cases B:VL w a T.length
   ·have:=h1 B;unfold WF at this;rw [Υ (by rw [C];decide)] at this;omega
   ·have:=h2 B;unfold VL at B;omega
 |succ d ih=>
  intro hd G F a o T vs s K R h1 h2 h3 hr h;by_cases C:s.t=nk
  ·exact x7 K hL hg R C hr (by omega) h
  have C:s.t=mD:=by simpa using C
  have hH:=R.2.2 C;have b0:=R.1.1;have g4:=R.1.2.1 C;have b4:WF w s=w.H.getD s.i.toNat 0:=by unfold WF;rw [Υ (by rw [C];decide)]
  have g3:=va K.hts hg R;have hT:T.length<=70000:=by omega
  have g2:=CR hr h (i:=1) rfl;have f6:((s.i.toNat:Nat):Int)=s.i:=by omega
  refine UH ?_;unfold RQ;refine h.newG λb3 G1 F1 l1 q3 _ h=> ?_;have b6:=h.le _ _ q3;refine ⟨_,ld b6 rfl,λB=>(by rw [C] at B;cases B),λ_=>⟨s.i,ld b6 rfl,?_⟩⟩;rw [<- f6];refine (qhq (K.le l1) hL (by omega) hH h).mono ?_;rintro _ F2 ⟨p,a1,G2,rfl,p1,p2,p3,p4,h4,l2,h⟩;rw [g2] at p4;refine ⟨_,rfl,_,rfl,_,h.ld0 (i:=13) rfl,rfl,?_⟩;have d0:=aa l1 l2;have W:w.g.qa0[p]? =V w.g.qa0[p]:=N5 p1;generalize w.g.qa0[p]=x at W;have g6:VN w.g p=x.left.toNat:=by unfold VN;rw [W];rfl
  have e2:VG w.g p=x.right:=by unfold VG;rw [W];rfl
  obtain ⟨_,_,⟨c6,_⟩,e7⟩:=K.ok.prod (vO W);have c6:0<=x.left:=c6;have b9:=hg.r5 x (vO W);have p3:hgt (WR w.g w.c) (VG w.g) w.H p<1000:=p3;have e8:(bI w.g p).ev (wu w.c)=nk:=RN p3;have b5:=K.ok.prs_ev W (wu w.c);rw [e8,K.fam,Wz] at b5;obtain ⟨d3,c2⟩:=Xk.1 b5.symm;rw [VA] at c2;have D:1<=WF w s:=by obtain ⟨q,q1,q2,q3⟩:=K.hts.hf.best s.i.toNat (by omega) hH;rw [b4,<- q3];unfold hgt;split<;>omega
  have c3:∀M∈x.right,Y2 w M/\(VL w a T.length->WF w M<=WF w s - 1):=λM hm=>by
   have ok:=e7 M hm;have b7:M.t=mD->w.H.getD M.i.toNat 0<hgt (WR w.g w.c) (VG w.g) w.H p:=λe=>(Mk p3 (by rw [e2];exact hm) e).2;refine ⟨⟨ok,λe=> ?_,λe=> ?_⟩,λB=> ?_⟩
   ·have:=c2 M hm;rw [e] at this;simpa using this
   ·have:=b7 e;omega
   ·unfold WF;cases e:M.t with
    |true=>rw [Χ rfl];omega
    |false=>rw [Υ (by decide)];have:=b7 e;have e4:hgt (WR w.g w.c) (VG w.g) w.H p=w.H.getD s.i.toNat 0:=p4 B;have e5:(if s.t=nk then 0 else w.H.getD s.i.toNat 0)=w.H.getD s.i.toNat 0:=b4;omega
  have g1:Mem.rep G2 (⟨(p:Int),-1,emp,[]⟩:Tmn) #[U (p:Int),U (-1:Int),ph ⟨#[]⟩,tX I 0 0]:=⟨pm,rfl,RL.nil _⟩;refine uc (hr.le d0) g1 (by omega) h λG3 F3 o3 f4 l3 f9 g9 h=> ?_;have e1:=aa d0 l3;refine bD (A9 · (oB bx 0 I) (p:Int) _) x.right.length (λj F'=>∃G' a' o' c7 J A,G3.le G'/\a1<=a'/\bS G' (T++[⟨(p:Int),-1,emp,[]⟩]++A) c7/\St G' F' (TM bx w a' o' c7 As)/\A.map Tmn.key=V4 J/\TrL w.g (wu w.c) (x.right.take j) J/\GrL (VL w a T.length) (WF w s - 1) (T.length+1) J/\(∀y∈A,TmO y)/\J.length=j) ⟨G3,a1,o3,f4,[],[],au _,ru _,by rw [yt];exact f9,h,by rw [jD];rfl,by rw [z6];exact .nil,.nil,λy Q=>(by cases Q),rfl⟩ ?_;rintro j F4 N hj ⟨G4,a4,o4,d2,J,A,l4,h8,c5,h,a9,a7,a6,c8,e6⟩ next;have c9:=aa e1 l4;have a2:=K.le c9;have ep:=a2.gs.p.len;have f5:A.length=yZ J:=by rw [<- My,<- a9,ub]
  have E:(T++[(⟨(p:Int),-1,emp,[]⟩:Tmn)]++A).length=T.length+1+yZ J:=by rw [tT,tT,f5];rfl
  unfold A9;refine ⟨_,h.ld0 (i:=5) rfl,?_⟩;refine t8 a2.gs.p (by decide) (by omega) (by omega) λi0 cc x' P O hc=> ?_;rw [N4,W] at P;cases P;obtain ⟨rr,n2,l9,rfl,d4,_⟩:=hc;have h9:=d4.len;refine ⟨rr,aM (aN h.le O) (i:=2) rfl,λX=> ?_,λg8=> ?_⟩
  ·have X:j<x.right.length:=by omega
   refine ⟨_,h.ld0 (i:=5) rfl,?_⟩;refine t8 a2.gs.p (by decide) (by omega) (by omega) λi1 cc x' P O hc=> ?_;rw [N4,W] at P;cases P;obtain ⟨r2,n3,l8,rfl,b1,_⟩:=hc;have i4:=b1.len;refine ⟨r2,aM (aN h.le O) (i:=2) rfl,?_⟩;have a0:x.right[j]? =V x.right[j]:=N5 X;generalize x.right[j]=M at a0;refine t8 b1 (by decide) (by omega) (by omega) λi3 d1 h5 b8 a3 c4=> ?_;rw [N4,a0] at b8;cases b8;obtain rfl:d1=M.arr:=c4;refine ⟨M.arr,rfl,aN h.le a3,?_⟩;obtain ⟨k1,k2⟩:=c3 M (vO a0);have k3:=va K.hts hg k1;have mono:VL w a T.length->VL w a4 (T++[(⟨(p:Int),-1,emp,[]⟩:Tmn)]++A).length:=λB=>by rw [E];unfold VL at B ⊢;omega
   have a8:T.length+1+yZ J<=40\/T.length+1+yZ J+300*d<=70000:=by
    by_cases i2:T.length<=40
    ·obtain ⟨f,f1,f2,f3⟩:=a6.fb;right;omega
    ·right;have B:=a6.nfb (.inr (by omega));have h6:6 ^ (WF w s - 1)<=6 ^ 2:=Ww (by decide) (by omega);have h7:J.length*6 ^ (WF w s - 1)<=5*36:=Yq (by omega) h6;omega
   refine (ih (by omega) a2 k1 (λB=> ?_) (λB=> ?_) (by rw [E];exact a8) c5 h).mono ?_
   ·by_cases hp:VL w a T.length
    ·have:=k2 hp;have:=h1 hp;omega
    ·have:=h2 hp;unfold VL at hp;omega
   ·have hp:¬VL w a T.length:=λhp=>B (mono hp);have:=h2 hp;rw [E];rw [E] at B;unfold VL at B hp;omega
   ·rintro _ F5 ⟨rfl,G5,a5,o5,g5,m,e9,l5,h0,b9,h,e3,g7,b2,e0⟩;refine ⟨rfl,?_⟩;rw [aC X];refine next _ X ⟨G5,a5,o5,g5,J++[m],A++e9,aa l4 l5,by omega,?_,h,?_,?_,?_,λy Q=> ?_,by rw [tT,e6];rfl⟩
    ·rw [<- xZ];exact b9
    ·rw [yW,a9,e3,rL,gM,jD,yt]
    ·rw [bg a0];exact a7.snoc g7
    ·rw [E] at b2;rw [E] at mono;exact a6.snoc b2 mono k2
    ·rcases vj.1 Q with Q|Q
     ·exact c8 y Q
     ·exact e0 y Q
  ·have:j=x.right.length:=by omega
   subst this;rw [wB] at a7;refine ⟨rfl,G4,a4,o4,d2,.nd (p:Int) J,⟨(p:Int),-1,emp,[]⟩::A,c9,by omega,?_,h,?_,?_,?_,λy Q=> ?_⟩
   ·rw [show T++(⟨(p:Int),-1,emp,[]⟩:Tmn)::A=T++[⟨(p:Int),-1,emp,[]⟩]++A by simp];exact c5
   ·rw [rK,xA,a9];rfl
   ·unfold wi;refine ⟨x,?_,?_,d3,a7⟩
    ·unfold VI;rw [Χ (by omega),N4];exact W
    ·obtain ⟨st,si⟩:=s;have C:st=mD:=C;have e:x.left.toNat=si.toNat:=by rw [<- g6];exact p2
     have b0:0<=si:=b0;have:si=x.left:=by omega
     rw [C,this]
   ·exact .nd a6 (by omega) D id (λ_=>g3) (by
     by_cases B:VL w a T.length
     ·exact .inl B
     ·unfold VL at B
      exact .inr (by omega))
   ·rcases tS.1 Q with rfl|Q
    ·exact ⟨yA _,λr hr=>(by cases hr),yA _,λB=>absurd B (by show ¬(p:Int)<0;omega),λ_=>⟨rfl,rfl⟩⟩
    ·exact c8 y Q
end
theorem CS:∀(n:Nat) (c:Nat->Bool),∃m,m<2 ^ n/\∀i,i<n->m.testBit i=c i
 |0,c=>⟨0,by decide,λi h=>by omega⟩
 |n+1,c=>by
  obtain ⟨m,r,g⟩:=CS n λi=>c (i+1);have w:=Bool.toNat_le (c 0);refine ⟨2*m+(c 0).toNat,by rw [Nat.pow_succ];omega,λi hi=> ?_⟩;cases i with
  |zero=>
   rw [Nat.testBit_zero];cases c 0
   ·rw [Bool.toNat_false];exact η (by omega)
   ·rw [Bool.toNat_true];exact ε (by omega)
  |succ i=>rw [Nat.testBit_succ,show (2*m+(c 0).toNat) / 2=m by omega];exact g i (by omega)
section
variable {F G:PH} {g:Gr} {k:Nat} {c:Int}
theorem Q6 (r:OkK g k) (h:Uw g c=nk):(vi g.fam).ev (wu c)=nk:=by unfold Uw at h;have A:=(Xk.1 h).2;have w:=mU (r.fam.1.small r.le) c;rw [<- r.fam.2,A] at w;exact w.symm
theorem GR (r:OkK g k) {m:Nat} (w:m<2 ^ k) (A:(vi g.fam).ev (wu (m:Nat))=nk):Uw g (m:Int)=nk:=by have B:=r.le;have h:=mU (r.fam.1.small r.le) (m:Int);rw [<- r.fam.2,A] at h;unfold Uw;rw [h,Bool.and_true,r.len,show min k 64=k by omega];refine ε ?_;rw [Zb _ (by exact_mod_cast yA (2 ^ k))];exact Int.ediv_eq_zero_of_lt (by omega) (by exact_mod_cast w)
theorem GT (h:OkK g k) (B:k<=3):∃m:Nat,m<8/\Uw g (m:Int)=nk:=by
 refine Classical.byContradiction λr=>h.fam0 ?_;refine Tr.eq_of_ev h.fam.1.1 trivial λx=> ?_;have C:2 ^ k<=2 ^ 3:=Ww (by decide) B;cases e:(vi g.fam).ev x with
 |false=>rfl
 |true=>
  obtain ⟨m,w,A⟩:=CS k x;have:(vi g.fam).ev (wu (m:Nat))=nk:=by rw [<- e];exact mv h.fam.1.2 λi hi=>by rw [<- A i hi];simp [wu]
  exact absurd ⟨m,by omega,GR h w this⟩ r
theorem qhK {v:Γ} {j:Nat} (R:GV F v g) (W:OkK g k) (h3:k<=3) (hj:j<256):
  ν 65 #[nQ v,rV .u8 (j:Int)] F λr P=>∃m:Nat,r=rV .u64 (m:Int)/\m<8/\Uw g (m:Int)=nk/\F.le P:=by
 have hv:=R.size;refine qgT ?_;unfold UF;refine (St.start F).newG λb2 X F1 l1 q2 _ h=> ?_;have h:=h.push (A:=own pm 41 1 (([]:Δ).map vC)) (H:=λ_=>I) (.inl ⟨rfl,rfl⟩) (λb E=>absurd rfl E) (λb o E=>by cases E) (au _);refine gA (λN x v F=>A5 N (j:Int) b2 _ x v F) 8 (λc s P=>∃(G':PH) (l:Δ),X.le G'/\(∀m∈l,m<8/\Uw g (m:Int)=nk)/\(∀m,m<c->Uw g (m:Int)=nk->m∈l)/\l.length<=c/\St G' P [own s 41 1 (l.map vC)]) pm ⟨X,[],au _,λm D=>(by cases D),λm D=>(by omega),ru _,h⟩ ?_;rintro c s F2 N hc ⟨G2,l,O,Q,D,a2,h⟩ next;have L:=aa l1 O;unfold A5;refine ⟨λw=> ?_,λa1=> ?_⟩
 ·have w:c<8:=by omega
  refine ⟨v,hv,ai (h.le _ _ (O _ _ q2)),?_⟩;have ec:u64.wrap ((c:Int)+1)=((c+1:Nat):Int):=by unfold IntKind.wrap;simp [IntKind.signed,IntKind.bits];omega
  refine h.runv (FJ (R.le L) W.ok (by omega) (by omega)) λG3 F3 l3 h=>⟨_,rfl,λhy=> ?_,λhn=> ?_⟩
  ·refine h.push0 qfY (c:= #[vC c]) rfl (by simp [ak]) (by have:=(h.ownAt (i:=0) rfl).1.rd.len;rw [ub] at this;omega) λs' G4 F4 l4 h _=> ?_;unfold vK;rw [ec];refine next _ _ w ⟨G4,l++[c],aa O (aa l3 l4),λm B=> ?_,λm B M=> ?_,by rw [tT];show _+1<=_;omega,?_⟩
   ·rcases vj.1 B with B|B
    ·exact Q m B
    ·rw [vu] at B;subst B;exact ⟨w,hy⟩
   ·by_cases e:m=c
    ·subst e;simp
    ·exact vj.2 (.inl (D m (by omega) M))
   ·rw [yW];exact h
  ·unfold vK;rw [ec];refine next _ _ w ⟨G3,l,aa O l3,Q,λm B M=> ?_,by omega,h⟩;by_cases e:m=c
   ·subst e;rw [M] at hn;cases hn
   ·exact D m (by omega) M
 ·have:c=8:=by omega
  subst this;obtain ⟨m0,h0,B⟩:=GT W h3;have a0:=List.length_pos_of_mem (D m0 h0 B);have C:=(h.ownAt (i:=0) rfl).1.rd;have K:=C.len;rw [ub,xF] at K;unfold Ic;have e1:i64.wrap (j:Int)=j:=aJ (by omega);rw [e1];have e2:sj (j:Int) (s.len:Int)=((j % s.len:Nat):Int):=by rw [Xv (by omega)];rfl
  rw [e2,N4,xF];have w:j % s.len<l.length:=by rw [K];exact VU _ (by omega)
  obtain ⟨b0,o0,E,_⟩:=C.cells (by omega);have J:=C.cell E (i:=j % s.len) (by rw [ub];exact w);rw [Yn] at J;obtain ⟨m1,m2⟩:=Q _ (Vc w);exact ⟨by omega,_,E,by omega,by omega,_,J,_,rfl,m1,m2,aa L h.le⟩
structure TmV (F:PH) (g:Gr) (c:Int) (s:Sy) (v:Γ) (T:List Tmn) (tl:List ByteArray) (m:Ttr):Prop where
 ex:∃n t:Sl,v= #[n.v,t.v]/\RL F n T/\RL F t tl
 key:T.map Tmn.key=UQ m
 tr:wi g (wu c) s m
 sz:yT m<=44537
 ok:∀x∈T,TmO x
 t3:tl.length<=3
 t4:∀x∈tl,ByteArray.size x<=4
theorem TmV.le {F G:PH} {g:Gr} {c:Int} {s:Sy} {v:Γ} {T:List Tmn} {r:List ο} {m:Ttr} (h:TmV F g c s v T r m) (l:F.le G):TmV G g c s v T r m:=by obtain ⟨n,t,w,B,A⟩:=h.ex;exact ⟨⟨n,t,w,B.le l,A.le l⟩,h.key,h.tr,h.sz,h.ok,h.t3,h.t4⟩
theorem qfv {w D h A E B C H r u v x:ξ}:tC (tC (tC (wr (#[tX I 0 0,.slice I 0 0,U 0,.slice I 0 0,.slice I 0 0,.slice I 0 0,U 0,.slice I 0 0,.slice I 0 0,.int .u64 0,.slice I 0 0,U 0,.slice I 0 0,.slice I 0 0]:Γ) 0 (#[w,D,h,A,E,B,C,H,r]:Γ).toList) 9 u) 10 v) 12 x= #[w,D,h,A,E,B,C,H,r,u,v,U 0,x,tX I 0 0]:=by kernel_rfl
theorem Ak {v:Γ} {left:Nat} {l:Sl} {L:Δ} (hg:GV F v g) (hk:OkK g k) (hS:GwS g) (hf:(vi g.fam).ev (wu c)=nk) (c0:0<=c) (c1:c<18446744073709551616) (hl:left<g.qa1.length) (hr:RdS F l 1 (L.map vB)) (hL:∀b∈L,b<256) (a1:L.length<=1000):
  ν 44 #[nQ v,rV .u64 c,U (left:Int),l.v] F λr F'=>((∃w,r=po #[nQ w,nW mD]/\w= #[Sl.nil.v,Sl.nil.v])\/∃w T tl m,r=po #[nQ w,nW nk]/\TmV F' g c ⟨mD,left⟩ w T tl m)/\F.le F':=by
 have c3:=hS.n3;have hv:=hg.size;have b5:=hg;obtain ⟨cs,n,t,s,p,lv,f,rfl,hs⟩:=hg;refine qgP ?_;unfold UA;refine (St.start F).newG λb4 G1 F1 l1 q4 _ h=>h.new λb8 F2 h=> ?_;have E:=h.le _ _ q4;refine ⟨_,rfl,ai E,_,rfl,ai E,?_⟩;refine h.run (P:=λr G'=>∃s l,r=nI s/\RL G' s (Vj l)/\Hts g c l) ((qhu (b5.le l1) hk (by omega) hf c0 c1).mono λr F' ⟨a,b,h1,h2,h3,h4⟩=>⟨⟨a,b,h1,h2,h3⟩,h4⟩) λ_ G3 F3 b0 l3 h=> ?_;obtain ⟨hi,H,rfl,C,M⟩:=b0;have B:=aa l1 l3;refine ⟨hi,rfl,ai (h.le _ _ (l3 _ _ q4)),rfl,?_⟩;rw [qfv];refine h.new λR F4 h=> ?_;have X:GwO G3 ⟨g,cs,n,t,s,p,lv,f,c,l,L,hi,H⟩ k:=⟨hs.le B,hk,hf,c0,c1,hr.le B,C,M,a1⟩;have b6:=M.hf.len;have b3:=C.len;rw [ub] at b3;have h:St G3 F4 (GB R ⟨g,cs,n,t,s,p,lv,f,c,l,L,hi,H⟩ 0 pm [pt b8 (Y (#[Sl.nil.v,Sl.nil.v]) 94)]):=h;generalize K:(⟨g,cs,n,t,s,p,lv,f,c,l,L,hi,H⟩:Gwc)=w at X h;have e1:w.hi=hi/\w.g=g/\w.c=c/\w.H=H/\w.L=L:=by subst K;exact ⟨rfl,rfl,rfl,rfl,rfl⟩
 obtain ⟨e1,e2,e3,e4,e5⟩:=e1;clear K;refine ⟨hi,by rw [<- e1];exact h.ld0 (i:=12) rfl,?_⟩;refine t8 (C.le h.le) (by decide) (by omega) (by omega) λa cc x W J hc=> ?_;obtain rfl:cc= #[U x]:=hc;have W:=Be W;rw [N4] at W;subst W;refine ⟨_,aE J rfl,λb7=> ?_,λc2=> ?_⟩
 ·refine h.put1 (w':= #[Sl.nil.v,Sl.nil.v]) rfl rfl (by simp [ak,nI]) λF5 h=>⟨_,rfl,h.whole1,.inl ⟨_,rfl,rfl⟩,aa B h.le⟩
 ·have h:St G3 F4 (TM R w 0 pm [] [pt b8 (Y (#[Sl.nil.v,Sl.nil.v]) 94)]):=(h.push (A:=own pm 137 4 (tZ [])) (H:=λ_=>I) (.inl ⟨rfl,rfl⟩) (λb hb=>absurd rfl hb) (λb o hb=>by cases hb) (au _)).swap;have D:Y2 w ⟨mD,(left:Int)⟩:=by
   refine ⟨⟨by show 0<=(left:Int);omega,λ_=> ?_,λhn=>(by cases hn)⟩,λhn=>(by cases hn),λ_=> ?_⟩
   ·rw [e2];show (left:Int)<_;omega
   ·show w.H.getD (nX (left:Int)) 0<1000;rw [e4,N4];omega
  have O:∀b∈w.L,b<256:=by rw [e5];exact hL
  have N:GwS w.g:=by rw [e2];exact hS
  have h3:=va X.hts N D;refine (FD (s:=⟨mD,(left:Int)⟩) O N 44 (ru _) X D (λ_=>by omega) (λ_=>Nat.sub_le _ _) (.inl (yA _)) .nil h).mono ?_;rintro _ F5 ⟨rfl,G5,a5,o5,b2,m,a3,l5,_,a2,h,a0,Q,a6,a4⟩;refine ⟨rfl,_,h.ld0 (i:=13) rfl,?_⟩;refine h.new λc4 F6 h=>h.put0 (w':= #[o5.v,Sl.nil.v]) rfl rfl (by simp [ak,nI]) λF7 h=> ?_;refine (lK (X.le l5) O h.swap).mono ?_;rintro _ F8 ⟨sr,tl,G8,a8,rfl,a7,b1,a9,l8,_,h⟩;refine ⟨_,rfl,?_⟩;refine h.set1 (w':= #[o5.v,sr.v]) (vr rfl) rfl λF9 h=> ?_;refine ⟨_,rfl,h.whole1,?_⟩;refine h.put3 (w':= #[o5.v,sr.v]) rfl rfl (by simp [ak,nI]) λb9 h=>⟨_,rfl,h.whole3,.inr ⟨_,a3,tl,m,rfl,⟨o5,sr,rfl,⟨b2,(a2.le l8).le h.le,(h.ownAt (i:=2) rfl).1.rd⟩,a7.le h.le⟩,a0,?_,a6.bound,a4,a9,b1⟩,aa B (aa l5 (aa l8 h.le))⟩;rw [e2,e3] at Q;exact Q
end
open Tr
abbrev r01:List Sy:=[⟨mD,0⟩,⟨mD,1⟩]
instance (p:Pr):Decidable (lQ p):=by unfold lQ;infer_instance
instance (p:Pr):Decidable (pi p):=by unfold pi;infer_instance
structure AC (l:List Pr):Prop where
 each:∀p∈l,lQ p\/pi p\/(p.left=0/\p.right=r01)
 one:(∃p∈l,¬lQ p/\¬pi p)->∀p∈l,p.left=1->lQ p
theorem GU {k:Nat} (g:k<6):AC (cj k).qa0:=by
 have h:k=0\/k=1\/k=2\/k=3\/k=4\/k=5:=by omega
 rcases h with rfl|rfl|rfl|rfl|rfl|rfl
 ·exact ⟨by show ∀p∈bY.qa0,_;decide,by show (∃p∈bY.qa0,_)->∀p∈bY.qa0,_;decide⟩
 ·exact ⟨by show ∀p∈bP.qa0,_;decide,by show (∃p∈bP.qa0,_)->∀p∈bP.qa0,_;decide⟩
 ·exact ⟨by show ∀p∈aQ.qa0,_;decide,by show (∃p∈aQ.qa0,_)->∀p∈aQ.qa0,_;decide⟩
 ·exact ⟨by show ∀p∈iq.qa0,_;decide,by show (∃p∈iq.qa0,_)->∀p∈iq.qa0,_;decide⟩
 ·exact ⟨by show ∀p∈fO.qa0,_;decide,by show (∃p∈fO.qa0,_)->∀p∈fO.qa0,_;decide⟩
 ·exact ⟨by show ∀p∈fQ.qa0,_;decide,by show (∃p∈fQ.qa0,_)->∀p∈fQ.qa0,_;decide⟩
theorem pz (x:Rw):AC (aS x).qa0:=by
 obtain ⟨_,h⟩:=AM x;cases hk:bF x with
 |true=>
  have e:cU x=cj (x.qa5 % 8):=by unfold cU;rw [Χ hk]
  rw [e] at h;have C:=GU (ζ (show decide (x.qa5 % 8<6)=nk from hk));refine ⟨λp g=> ?_,λ⟨p,g,A,B⟩ q D E=> ?_⟩
  ·rcases h p g with h|⟨_,h|⟨h,_⟩⟩
   ·exact C.each p h
   ·exact .inl h
   ·rw [hk] at h;cases h
  ·rcases h p g with r|⟨_,r|⟨r,_⟩⟩
   ·rcases h q D with w|⟨_,w|⟨w,_⟩⟩
    ·exact C.one ⟨p,r,A,B⟩ q w E
    ·exact w
    ·rw [hk] at w;cases w
   ·exact absurd r A
   ·rw [hk] at r;cases r
 |false=>
  have e:∀p∈(cU x).qa0,lQ p:=by unfold cU;rw [Υ (by rw [hk];decide)];intro p g;rw [vu.1 g];decide
  have k:∀p∈(aS x).qa0,lQ p\/pi p:=λp g=>by
   rcases h p g with h|⟨_,h|⟨_,h⟩⟩
   ·exact .inl (e p h)
   ·exact .inl h
   ·exact .inr h
  exact ⟨λp g=>(k p g).imp id .inl,λ⟨p,g,A,B⟩=>by
   rcases k p g with h|h
   ·exact absurd h A
   ·exact absurd h B⟩
section
variable {l l':List Pr} {P:Nat->Tr} {c:Cf} {k:Int} {E:Pr->Prop}
def ZK (l:List Pr) (x:Pr):Prop:=x.right=[]/\((∃p∈l,¬lQ p/\¬pi p)->x.left≠1)
def ZJ (k:Int) (x:Pr):Prop:=x.left=k/\(⟨mD,k⟩:Sy)∈x.right/\∀s∈x.right,s.i=k\/k<s.i
theorem Q7 (h:∀x∈l',x∈l\/ZK l x\/(E x/\ZJ k x)) (w:AC l) (r:∃p∈l,¬lQ p/\¬pi p) {n:Int} (d:Der l' P nk c n):n≠1:=by
 induction d with
 |mk i x hi C A hd ih=>
  rcases h x (vO hi) with h|h|⟨_,h⟩
  ·intro e;obtain ⟨s,B,g⟩:=w.one r x h e;exact absurd (A s B g) (by decide)
  ·exact h.2 r
  ·rw [h.1];exact ih _ h.2.1 rfl
theorem GW (h:∀x∈l',x∈l\/ZK l x\/(E x/\ZJ k x)) (J:AC l) {a b:Int} (Q:WY l' P c a b):a<b\/(a=k/\b=k/\∃i x,l'[i]? =V x/\E x/\(P i).ev c=nk):=by
 obtain ⟨i,j,x,s,hi,g,A,rfl,rfl,N,H⟩:=Q;have B:=vO g;rcases h x (vO hi) with r|r|⟨L,r⟩
 ·by_cases F:lQ x
  ·obtain ⟨y,O,w⟩:=F;obtain ⟨m,C⟩:=List.getElem?_of_mem O;by_cases e:m=j
   ·subst e;rw [g] at C;cases C;rw [A] at w;cases w
   ·have:=(H m y e C).1;rw [w] at this;cases this
  ·by_cases G:pi x
   ·exact .inl (G s B A)
   ·rcases J.each x r with D|D|⟨K,M⟩
    ·exact absurd D F
    ·exact absurd D G
    ·have R:∃p∈l,¬lQ p/\¬pi p:=⟨x,r,F,G⟩;rw [M] at g H
     match j,g with
     |0,g=>exact absurd rfl (Q7 h J R (H 1 ⟨mD,1⟩ (by decide) rfl).2)
     |1,g=>cases g;exact .inl (by rw [K];decide)
     |j+2,g=>simp at g
 ·rw [r.1] at g;simp at g
 ·rcases r.2.2 s B with e|e
  ·exact .inr ⟨r.1,e,i,x,hi,L,N⟩
  ·exact .inl (by rw [r.1];exact e)
theorem TL (h:∀x∈l',x∈l\/ZK l x\/(E x/\ZJ k x)) (r:AC l) {a b:Int} (t:Tg (WY l' P c) a b):a<b\/∃i x,l'[i]? =V x/\E x/\(P i).ev c=nk:=by
 induction t with
 |one g=>exact (GW h r g).imp id λh=>h.2.2
 |snoc _ g ih=>
  rcases ih with ih|ih
  ·rcases GW h r g with w|w
   ·exact .inl (by omega)
   ·exact .inr w.2.2
  ·exact .inr ih
theorem LW (g:AC l) {n:Int}:¬Tg (WY l P c) n n:=λt=>by
 rcases TL (l':=l) (k:=0) (E:=λ_=>False) (λx r=> .inl r) g t with h|⟨_,_,_,h,_⟩
 ·omega
 ·exact h
end
theorem GX:∀t∈fi,t.cls=0->t.lit.size<=1000/\t.smp.size<=1000/\(t.lit.size=0->0<t.smp.size):=by decide
theorem GY (x:Rw):GwS (aS x):=by
 obtain ⟨g,B⟩:=iv x;refine ⟨B.n,λp r=>(g.qa0 p r).rl,λi t A w=> ?_⟩;have h:rR t∈fi:=by rw [<- g.qa2.1];exact xv.2 ⟨t,vO A,rfl⟩
 exact GX (rR t) h w
theorem lL (x:Rw):OkK (aS x) (aS x).qa4.length:=⟨mj x,rfl,by have:=(iv x).2.c;omega⟩
structure InV (F:PH) (v:Γ) (x:Rw) (j:Nat) (L N:Δ):Prop where
 ex:∃(v0 v1 v2 v3 v4:ξ) (l n:Sl),v= #[v0,v1,v2,v3,v4,.int .u8 (j:Int),l.v,n.v]/\Gg F #[v0,v1,v2,v3,v4] x/\RdS F l 1 (L.map vB)/\RdS F n 1 (N.map vB)
 j:j<256
 l:∀b∈L,b<256
 n:∀b∈N,b<256
theorem InV.le {F G:PH} {v:Γ} {x:Rw} {j:Nat} {L N:Δ} (h:InV F v x j L N) (l:F.le G):InV G v x j L N:=by obtain ⟨A,B,w,C,D,a,b,g,r,H,E⟩:=h.ex;exact ⟨⟨A,B,w,C,D,a,b,g,r.le l,H.le l,E.le l⟩,h.j,h.l,h.n⟩
section
variable {F G:PH} {x:Rw} {j:Nat} {L N:Δ}
def TP (F:PH) (x:Rw) (r:ξ) (F':PH):Prop:=∃(w:Γ) (c:Nat) (vt:Γ) (ok:Bool),r=po #[nQ w,rV .u64 (c:Int),nQ vt,nW ok]/\GV F' w (aS x)/\c<8/\Uw (aS x) (c:Int)=nk/\F.le F'/\
 ((ok=mD/\vt= #[Sl.nil.v,Sl.nil.v])\/(ok=nk/\∃T tl m,TmV F' (aS x) (c:Int) ⟨mD,0⟩ vt T tl m))
theorem ya {w g:Γ} {c O M P bt:Nat} {ok:Bool} {H K:Γ} (B:GV G w (aS x)) (X:c<8) (hi:Uw (aS x) (c:Int)=nk) (A:(ok=mD/\g= #[Sl.nil.v,Sl.nil.v])\/(ok=nk/\∃T C m,TmV G (aS x) (c:Int) ⟨mD,0⟩ g T C m)) (R:H.size=9) (h4:K.size=2) (W:F.le G)
  (q6:G P=V (Y w 39)) {J:PH} (h:St G J [pt bt (Y g 94),pt M (Y K 94),pt O (Y H 39)]):vH O M P (c:Int) (V (oB bt 0 I)) ok (TP F x) J:=by
 have r:g.size=2:=by
  rcases A with ⟨_,rfl⟩|⟨_,T,C,m,D⟩
  ·rfl
  ·obtain ⟨n,t,rfl,_⟩:=D.ex;rfl
 have E:∀y∈g.toList,ak y:=by
  rcases A with ⟨_,rfl⟩|⟨_,T,C,m,D⟩
  ·simp [ak,nI]
  ·obtain ⟨n,t,rfl,_⟩:=D.ex;simp [ak,nI]
 unfold vH;refine ⟨w,B.size,ai (h.le _ _ q6),_,rfl,g,r,h.whole0,?_⟩;refine h.put2 (w':=w) B.size R B.st λF2 h=>⟨h.whole0,?_⟩;refine h.put1 (w':=g) r h4 E λF3 h=>⟨w,B.size,h.whole2,g,r,h.whole1,w,c,g,ok,rfl,B.le h.le,X,hi,aa W h.le,?_⟩;rcases A with A|⟨Q,T,C,m,D⟩
 ·exact .inl A
 ·exact .inr ⟨Q,T,C,m,D.le h.le⟩
theorem Al {v:Γ} (hx:InV F v x j L N):ν 30 #[nQ v] F (TP F x):=by
 obtain ⟨⟨v0,v1,v2,v3,v4,l,n,rfl,hr,hL,_⟩,hj,a9,_⟩:=hx;obtain ⟨mg,bd⟩:=iv x;have hk:=lL x;have hS:=GY x;have b3:=bd.c;have b5:=bd.n0;have a8:=mg.start;have el:=hL.len;rw [ub,xF] at el;have b7:=hL.cap;refine qgO ?_;unfold Uz;refine (St.start F).newG λb1 G1 F1 l1 q1 _ h=>h.new λb2 F2 h=>h.new λb4 F3 h=> ?_;refine ⟨#[v0,v1,v2,v3,v4],rfl,ga (h.le _ _ q1) rfl,?_⟩;refine h.run (P:=λr A=>∃w,r=nQ w/\GV A w (aS x)) (qh1 (hr.le l1)) λ_ G2 F4 a7 l2 h=> ?_;obtain ⟨w,rfl,Q⟩:=a7;refine ⟨w,rfl,?_⟩;refine h.var Q.st (λb6 G3 F5 l3 q6 h=> ?_) rfl Q.size;have b0:=aa l1 (aa l2 l3);have a0:=l3 _ _ (l2 _ _ q1);have W:=Q.le l3;refine ⟨w,Q.size,ai (h.le _ _ q6),_,ld (h.le _ _ a0) rfl,?_⟩;refine h.run (P:=λr A=>∃m:Nat,r=rV .u64 (m:Int)/\m<8/\Uw (aS x) (m:Int)=nk) ((qhK W hk b3 hj).mono λr F' ⟨m,a1,a2,a3,a4⟩=>⟨⟨m,a1,a2,a3⟩,a4⟩) λ_ G4 F6 hm l4 h=> ?_;obtain ⟨m,rfl,m8,mi⟩:=hm;have M:=aa b0 l4;have g:=l4 _ _ a0;have H:=l4 _ _ q6;have E:=W.le l4;have O:F6.cell (oB b6 6 I)=V (U (0:Int)):=by obtain ⟨_,_,_,_,_,_,_,rfl,_⟩:=E;rw [<- a8];exact ld (h.le _ _ H) (i:=6) rfl
 have a6:nX (min (l.len:Int) 40)=min l.len 40:=by omega
 refine ⟨_,rfl,w,Q.size,ai (h.le _ _ H),0,O,l,ld (h.le _ _ g) rfl,l,ld (h.le _ _ g) rfl,by omega,by omega,by omega,?_⟩;rw [a6];have X:RdS G4 (Sl.cut l 1 0 (min l.len 40) l.cap) 1 ((L.take (min l.len 40)).map vB):=by have:=(hL.le M).cut (l:=0) (r:=min l.len 40) (m:=l.cap) (yA _) (Nat.min_le_left _ _) (by omega);rw [Wp,Vu,VV,xF,<- List.map_take] at this;exact this
 have a5:=Q6 hk mi;have C:∀{A:PH},G4.le A->ν 44 #[nQ w,rV .u64 (m:Int),U ((0:Nat):Int),(Sl.cut l 1 0 (min l.len 40) l.cap).v] A λr F'=>(∃w',(∃ok,r=po #[nQ w',nW ok]/\((ok=mD/\w'= #[Sl.nil.v,Sl.nil.v])\/(ok=nk/\∃T D t,TmV F' (aS x) (m:Int) ⟨mD,0⟩ w' T D t))))/\A.le F':=λl=>by
  refine (Ak (E.le l) hk hS a5 (by omega) (by omega) (by omega) (X.le l) (λb hb=>a9 b (YK hb)) (by rw [z9];omega)).mono ?_;rintro r F' ⟨⟨w',rfl,e⟩|⟨w',T,D,t,rfl,hT⟩,lF⟩
  ·exact ⟨⟨w',mD,rfl,.inl ⟨rfl,e⟩⟩,lF⟩
  ·exact ⟨⟨w',nk,rfl,.inr ⟨rfl,T,D,t,hT⟩⟩,lF⟩
 have R:∀{A:PH} {w':Γ} {ok:Bool},((ok=mD/\w'= #[Sl.nil.v,Sl.nil.v])\/(ok=nk/\∃T D t,TmV A (aS x) (m:Int) ⟨mD,0⟩ w' T D t))->w'.size=2/\∀y∈w'.toList,ak y:=λK=>by
  rcases K with ⟨_,rfl⟩|⟨_,T,D,t,hT⟩
  ·exact ⟨rfl,by simp [ak,nI]⟩
  ·obtain ⟨n,t,rfl,_⟩:=hT.ex;exact ⟨rfl,by simp [ak,nI]⟩
 refine ⟨?_,?_⟩
 ·refine h.run (P:=λr A=>∃w',(∃ok,r=po #[nQ w',nW ok]/\((ok=mD/\w'= #[Sl.nil.v,Sl.nil.v])\/(ok=nk/\∃T D t,TmV A (aS x) (m:Int) ⟨mD,0⟩ w' T D t)))) (C (au _)) λ_ G5 F7 J B h=> ?_;obtain ⟨w',ok,rfl,K⟩:=J;obtain ⟨v9,v8⟩:=R K;refine ⟨w',ok,rfl,ld (h.le _ _ (B _ _ g)) rfl,ld (h.le _ _ (B _ _ g)) rfl,?_⟩;refine h.new λb8 F8 h=>h.put0 (w':=w') v9 rfl v8 λF9 h=> ?_;exact ya (E.le B) m8 mi K rfl rfl (aa M B) (B _ _ H) h
 ·refine h.new λb8 F8 h=> ?_;refine h.run (P:=λr A=>∃w',(∃ok,r=po #[nQ w',nW ok]/\((ok=mD/\w'= #[Sl.nil.v,Sl.nil.v])\/(ok=nk/\∃T D t,TmV A (aS x) (m:Int) ⟨mD,0⟩ w' T D t)))) (C (au _)) λ_ G5 F7 J B h=> ?_;obtain ⟨w',ok,rfl,K⟩:=J;obtain ⟨v9,v8⟩:=R K;refine ⟨w',ok,rfl,ld (h.le _ _ (B _ _ g)) rfl,ld (h.le _ _ (B _ _ g)) rfl,?_⟩;refine h.put0 (w':=w') v9 rfl v8 λF9 h=> ?_;exact ya (E.le B) m8 mi K rfl rfl (aa M B) (B _ _ H) h
end
open Go.ChangeShapes Go.WideShapes Go.ChangeAt Go.RowKit Go.Deep
set_option maxRecDepth 100000
section
section
variable {H:Type} {enc:TypeId×ξ->H} {W:World}
theorem LX:prog.cellsOf 28=8:=by kernel_rfl
theorem An {fuel:Nat} {cs:Γ} {x:DataW H×List MemPlace} (h:DataW.trod enc prog W 0 (λ_=>nk) nk fuel 28 cs.toList=V x) (g:(x.1.weights prog 28).all (·<=reachBytes)=nk):
  ∃(D:Rw) (j:Nat) (L N:Δ),InV (hF W) cs D j L N:=by
 obtain ⟨R,n,_,rfl,M,E,B⟩:=DataW.trod_struct underlying28 h;rw [LX] at M;obtain ⟨cs⟩:=cs
 match cs,M with
 |[c0,c1,c2,c3,c4,c5,c6,c7],_=>
 match R,E with
 |[x0,x1,x2,x3],_=>
 have f0:=B 0 _ rfl;have P:=B 1 _ rfl;have f2:=B 2 _ rfl;have O:=B 3 _ rfl;simp only [X0,Vy] at f0 P f2 O;obtain ⟨z1,e1,_,w1⟩:=DataW.trod_int underlying5 P;cases e1;have K:(x0.1.weights prog 26).all (·<=reachBytes)=nk:=by rw [VA] at g ⊢;intro y r;refine g y ?_;rw [DataW.weights,underlying28];exact DataW.weights_mem_each (j:=0) rfl rfl y r
 have G:(x2.1.weights prog 22).all (·<=reachBytes)=nk:=by rw [VA] at g ⊢;intro y r;refine g y ?_;rw [DataW.weights,underlying28];exact DataW.weights_mem_each (j:=2) rfl rfl y r
 have F:(x3.1.weights prog 22).all (·<=reachBytes)=nk:=by rw [VA] at g ⊢;intro y r;refine g y ?_;rw [DataW.weights,underlying28];exact DataW.weights_mem_each (j:=3) rfl rfl y r
 obtain ⟨D,hr⟩:=IZ (cs:= #[c0,c1,c2,c3,c4]) f0 K;obtain ⟨X,Q,rfl,C,w,_⟩:=iw f2 G;obtain ⟨sn,bn,rfl,J,A,_⟩:=iw O F;obtain ⟨n1,rfl,k1⟩:=eL w1;exact ⟨D,n1,Q,bn,⟨⟨c0,c1,c2,c3,c4,X,sn,rfl,hr,C,J⟩,k1,w,A⟩⟩
end
def YY (g:Gr) (x:Tmn):Prop:=(x.pr= -1/\0<=x.tk/\x.tk<g.qa2.length)\/(0<=x.pr/\x.pr<g.qa0.length/\x.tk= -1/\x.tx=emp/\x.rm=[])
section
variable {F G:PH} {g:Gr} {x:Tmn}
theorem ud {v w:Γ} (N:GV F v g) (Q:Mem.rep F x w) (P:YY g x):ν 90 #[nQ v,nQ w] F λr O=>r=nW nk/\F.le O:=by
 obtain ⟨cs,n,t,s,p,l,f,rfl,J⟩:=N;obtain ⟨r,rfl,R⟩:=Q;have et:=J.t.len;have ep:=J.p.len;refine qf8 ?_;unfold UL;refine (St.start F).newG λb2 G1 F1 l1 q2 _ h=>h.newG λb3 G2 F2 L q3 _ h=> ?_;have C:=h.le _ _ (L _ _ q2);have A:=h.le _ _ q3;have K:=aa l1 (aa L h.le);rcases P with ⟨D,E,M⟩|⟨D,E,M,X,W⟩
 ·refine ⟨_,ld A rfl,λ_=>⟨_,ld A rfl,λ_=>⟨_,ld A rfl,_,ld C rfl,?_,K⟩,λB=>absurd E B⟩,λB=>absurd D B⟩;rw [ε (by omega)]
 ·have H:=R.len;rw [W] at H;refine ⟨_,ld A rfl,λB=>(by omega),λ_=>⟨_,ld A rfl,λ_=>⟨_,ld A rfl,_,ld C rfl,λ_=>⟨_,ld A rfl,λ_=>⟨_,ld A rfl,λ_=>⟨_,ld A rfl,?_,K⟩,λB=> ?_⟩,λB=>absurd M B⟩,λB=>absurd (by omega) B⟩,λB=>absurd D B⟩⟩
  ·rw [ε (by rw [H];rfl)]
  ·rw [mz,X] at B;exact absurd B (by decide)
def YB (g:Gr) (x:Tmn):Sy:=if x.pr= -1 then ⟨nk,x.tk⟩ else ⟨mD,((g.qa0[x.pr.toNat]?).map Pr.left).getD 0⟩
theorem Ao {v w:Γ} (L:GV F v g) (P:Mem.rep F x w) (O:YY g x):ν 91 #[nQ v,nQ w] F λr N=>r=nQ (YB g x).arr/\F.le N:=by
 obtain ⟨cs,n,t,s,p,l,f,rfl,H⟩:=L;obtain ⟨r,rfl,hr⟩:=P;have ep:=H.p.len;refine qf9 ?_;unfold UM;refine (St.start F).newG λb2 G1 F1 X q2 _ h=>h.newG λb3 G2 F2 K q3 _ h=>h.new λb4 F3 h=> ?_;have E:=h.le _ _ (K _ _ q2);have A:=h.le _ _ q3;have B:=aa X K;rcases O with ⟨D,M,W⟩|⟨D,M,W,h4,h5⟩
 ·refine ⟨_,ld A rfl,λ_=>⟨_,ld A rfl,?_⟩,λJ=>absurd D J⟩;refine h.put0 (w':= #[nW nk,U x.tk]) rfl rfl (by simp [ak]) λF4 h=>⟨_,rfl,h.whole0,?_,aa B h.le⟩;unfold YB;rw [Χ D]
 ·refine ⟨_,ld A rfl,λJ=>(by omega),λ_=>⟨p,ld E rfl,_,ld A rfl,?_⟩⟩;refine t8 (H.p.le B) (by decide) D (by omega) λa cc y Q C R=> ?_;obtain ⟨rr,n2,l9,rfl,_⟩:=R;refine ⟨y.left,aM (aN h.le C) (i:=1) rfl,?_⟩;refine h.put0 (w':= #[nW mD,U y.left]) rfl rfl (by simp [ak]) λF4 h=>⟨_,rfl,h.whole0,?_,aa B h.le⟩;unfold YB;rw [Υ (by omega),Q];rfl
end
section
variable {F G:PH} {g:Gr} {T:List Tmn} {c:Cf}
theorem Aq {i:Nat} {m:Ttr} {rest:List (Int×Int)} (h:(T.map Tmn.key).drop i=UQ m++rest):∃x,T[i]? =V x/\x.key=kS m/\(T.map Tmn.key).drop (i+1)=V4 m.kids++rest:=by
 rw [rK] at h;have r:(T.map Tmn.key)[i]? =V (kS m):=by have:=congrArg (·[0]?) h;simpa using this
 rw [yw] at r;obtain ⟨x,w,A⟩:=Ze.1 r;refine ⟨x,w,A,?_⟩;have:=congrArg (List.drop 1) h;rw [XL] at this;simpa using this
theorem Q8 {x:Tmn} {s:Sy} {m:Ttr} (h:wi g c s m) (A:x.key=kS m):YB g x=s:=by
 cases m with
 |lf B=>unfold wi at h;have r:x.pr= -1:=congrArg Prod.fst A;have w:x.tk=B:=congrArg Prod.snd A;unfold YB;rw [Χ r,w,h.1]
 |nd C E=>unfold wi at h;obtain ⟨p,r,w,_⟩:=h;have D:x.pr=C:=congrArg Prod.fst A;obtain ⟨a,b,e⟩:=bB r;unfold YB;rw [Υ (by omega),D,e,w];rfl
theorem GZ:∀{r:List Sy} {ks:List Ttr},TrL g c r ks->r.length=ks.length/\∀(k:Nat) (m:Ttr),ks[k]? =V m->∃s,r[k]? =V s/\wi g c s m
 |[],[],_=>⟨rfl,λk m h=>by simp at h⟩
 |s::r,m::ks,h=>by
  unfold TrL at h;obtain ⟨a,b⟩:=GZ h.2;refine ⟨by rw [wg,wg,a],λk y w=> ?_⟩;cases k with
  |zero=>cases w;exact ⟨s,rfl,h.1⟩
  |succ k=>exact b k y w
 |[],_::_,h=>by unfold TrL at h;exact h.elim
 |_::_,[],h=>by unfold TrL at h;exact h.elim
theorem CT:∀l:List Ttr,l.length<=yZ l
 |[]=>yA _
 |m::l=>by have:=CT l;rw [ja,kT,wg];omega
theorem Ha {v:Γ} {l:Sl} (hO:∀x∈T,YY g x) (hT:T.length<=1000000):∀(m:Ttr) {F:PH} {s:Sy} {i:Nat} {rest:List (Int×Int)},GV F v g->RL F l T->wi g c s m->(T.map Tmn.key).drop i=UQ m++rest->
  ν 59 #[nQ v,l.v,U (i:Int)] F λr F'=>r=U ((i+yT m:Nat):Int)/\F.le F':=by
 refine Ttr.ind (λtk=> ?_) λpr A ih=> ?_
 ·intro F s i rest hg hl ht hk;obtain ⟨x,L,R,_⟩:=Aq hk;have hi:=(N6.1 L).1;have el:=hl.len;have hv:=hg.size;have hp:x.pr= -1:=congrArg Prod.fst R;refine UD ?_;unfold RO;refine (St.start F).newG λb3 G1 F1 W q3 _ h=>⟨λC=>absurd C (by omega),λ_=> ?_⟩;refine ⟨v,hv,ai (h.le _ _ q3),?_⟩;have E:=hl.le W;refine t8 E (by decide) (by omega) (by omega) λa O y B w D=> ?_;rw [N4,L] at B;cases B;refine ⟨O,Mem.len D,aN h.le w,?_⟩;refine h.runv (ud (hg.le W) D (hO x (vO L))) λG2 F2 M h=>⟨_,rfl,λC=>(by cases C),λ_=> ?_⟩;refine t8 (E.le M) (by decide) (by omega) (by omega) λa O y B w D=> ?_;rw [N4,L] at B;cases B;obtain ⟨r,rfl,_⟩:=D;refine ⟨_,aE (aN h.le w) rfl,λ_=>⟨?_,aa W (aa M h.le)⟩,λC=>absurd (by rw [hp];decide) C⟩;rw [aC hi,kT];show U _=U ((i+(1+yZ []):Nat):Int);rw [fF]
 ·intro F s i rest hg hl ht hk;obtain ⟨x,L,R,Q⟩:=Aq hk;have hi:=(N6.1 L).1;have el:=hl.len;have hv:=hg.size;have X:=hg;unfold wi at ht;obtain ⟨p,h1,_,_,a8⟩:=ht;obtain ⟨p0,p1,p2⟩:=bB h1;obtain ⟨tl,ta⟩:=GZ a8;have hp:x.pr=pr:=congrArg Prod.fst R;have b9:A.length<=1000000:=by have h1:=congrArg List.length hk;have h2:=CT A;rw [W8,tT,eT,kT,ub] at h1;have h1:T.length - i=1+yZ A+rest.length:=h1;omega
  obtain ⟨cs,n,tk,s0,ps,lv,f,rfl,hs⟩:=hg;have ep:=hs.p.len;refine UD ?_;unfold RO;refine (St.start F).newG λb3 G1 F1 W q3 _ h=>⟨λC=>absurd C (by omega),λ_=> ?_⟩;refine ⟨_,hv,ai (h.le _ _ q3),?_⟩;have E:=hl.le W;refine t8 E (by decide) (by omega) (by omega) λa O y B w D=> ?_;rw [N4,L] at B;cases B;refine ⟨O,Mem.len D,aN h.le w,?_⟩;refine h.runv (ud (X.le W) D (hO x (vO L))) λG2 F2 M h=>⟨_,rfl,λC=>(by cases C),λ_=> ?_⟩;refine t8 (E.le M) (by decide) (by omega) (by omega) λa O y B w D=> ?_;rw [N4,L] at B;cases B;obtain ⟨r,rfl,_⟩:=D;refine ⟨_,aE (aN h.le w) rfl,λC=>absurd C (by rw [hp];omega),λ_=>⟨ps,ld (h.le _ _ (M _ _ q3)) rfl,?_⟩⟩;have a7:=aa W M;refine t8 (E.le M) (by decide) (by omega) (by omega) λc6 O y B w D=> ?_;rw [N4,L] at B;cases B;obtain ⟨r2,rfl,_⟩:=D;refine ⟨x.pr,aE (aN h.le w) rfl,?_⟩;refine t8 (hs.p.le a7) (by decide) (by omega) (by omega) λc4 O y B w D=> ?_;have a9:g.qa0[x.pr.toNat]? =V p:=by rw [hp];exact p2
  rw [a9] at B;cases B;obtain ⟨rr,n2,l9,rfl,a1,_⟩:=D;have c3:=a1.len;refine ⟨rr,aM (aN h.le w) (i:=2) rfl,?_⟩;rw [aC hi];refine gA (A4 · l b3 rr _) A.length (λj z F'=>∃G',G2.le G'/\z=((i+1+yZ (A.take j):Nat):Int)/\(T.map Tmn.key).drop (i+1+yZ (A.take j))=V4 (A.drop j)++rest/\St G' F' []) _ ⟨G2,au _,by rw [z6,fF],by rw [z6,fF];exact Q,h⟩ ?_;rintro j z F3 N hj ⟨G3,l3,rfl,hd,h⟩ next;have P:=aa a7 l3;unfold A4;refine ⟨λH=> ?_,λb7=> ?_⟩
  ·have H:j<A.length:=by omega
   have hm:A[j]? =V A[j]:=N5 H;have a2:A[j]∈A:=Vc H;have a4:A.drop j=A[j]::A.drop (j+1):=XJ H;generalize A[j]=m at hm a2 a4;obtain ⟨sy,b1,a5⟩:=ta j m hm;have b4:A.take (j+1)=A.take j++[m]:=bg hm;rw [a4,gM,xZ] at hd;obtain ⟨y,B,b2,_⟩:=Aq hd;have b8:=(N6.1 B).1;have a0:=E.le (aa M l3);have J:i+1+yZ (A.take j)+yT m=i+1+yZ (A.take (j+1)):=by rw [b4,kU,ja,fF];omega
   refine ⟨_,rfl,ai (h.le _ _ (l3 _ _ (M _ _ q3))),?_⟩;refine h.runv (ih m a2 (X.le P) a0 a5 hd) λG4 F4 l4 h=>⟨_,rfl,λC=>absurd C (by omega),λ_=> ?_⟩;have b5:=aa P l4;have b0:=a0.le l4;refine ⟨_,hv,ai (h.le _ _ (l4 _ _ (l3 _ _ (M _ _ q3)))),?_⟩;refine t8 b0 (by decide) (by omega) (by omega) λc2 O y' a6 w D=> ?_;rw [N4,B] at a6;cases a6;refine ⟨O,Mem.len D,aN h.le w,?_⟩;refine t8 (a1.le (aa l3 l4)) (by decide) (by omega) (by omega) λc5 sc s' a3 K b6=> ?_;rw [N4,b1] at a3;cases a3;obtain rfl:sc=sy.arr:=b6;refine ⟨_,rfl,aN h.le K,?_⟩;refine h.runv (Ao (X.le b5) D (hO y (vO B))) λG5 F5 l5 h=>⟨_,rfl,aN (aa l5 h.le) K,_,λF=>MT _ _ F,λC=> ?_,λ_=> ?_⟩
   ·rw [Q8 a5 b2] at C;simp at C
   ·rw [aC H,J];refine next _ _ H ⟨G5,aa l3 (aa l4 l5),rfl,?_,h⟩;rw [<- J,<- XL,hd,<- eT m,List.drop_left]
  ·have:j=A.length:=by omega
   subst this;unfold Ib;refine ⟨?_,aa P h.le⟩;rw [wB,kT];show U _=U ((i+(1+yZ A):Nat):Int);rw [Wo]
end
def lvs (T:List Tmn):List ο:=T.filterMap λx=>if x.pr<0 then V x.tx else I
theorem Ar (a b:List Tmn):lvs (a++b)=lvs a++lvs b:=by unfold lvs;rw [List.filterMap_append]
theorem lM {T:List Tmn} {i:Nat} {x:Tmn} (g:T[i]? =V x):lvs (T.take (i+1))=lvs (T.take i)++if x.pr<0 then [x.tx] else []:=by
 rw [bg g,Ar];congr 1;unfold lvs;split
 ·rw [List.filterMap_cons_some (b:=x.tx) (by rw [Χ ‹_›])];rfl
 ·rw [List.filterMap_cons_none (by rw [Υ ‹_›])];rfl
theorem Hb {a b:ο} {i j:Nat} (h:j<=a.size):(a++b).extract i j=a.extract i j:=by
 refine ByteArray.ext ?_;have g:a.data.size=a.size:=rfl;rw [ByteArray.data_extract,ByteArray.data_extract,ByteArray.data_append];refine Array.toList_inj.1 ?_;rw [Array.toList_extract,Array.toList_extract,List.extract_eq_take_drop,List.extract_eq_take_drop,Zj];by_cases hi:i<=a.size
 ·rw [List.drop_append_of_le_length (by rw [zQ];omega),Xi (by rw [W8,zQ];omega)]
 ·rw [show j - i=0 by omega,z6,z6]
theorem FE {a b:ο}:(a++b).extract a.size (a.size+b.size)=b:=by refine ByteArray.ext ?_;have g:a.data.size=a.size:=rfl;have h:b.data.size=b.size:=rfl;rw [ByteArray.data_extract,ByteArray.data_append];refine Array.toList_inj.1 ?_;rw [Array.toList_extract,List.extract_eq_take_drop,Zj,<- g,<- zQ,List.drop_left,Yi,<- h,<- zQ,wB]
structure WdI (L:List ByteArray) (tx:ByteArray) (ws:List (Nat×Nat)):Prop where
 len:ws.length=L.length
 wd:∀(j:Nat) (w:Nat×Nat),ws[j]? =V w->w.1<w.2/\w.2<=tx.size/\L[j]? =V (tx.extract w.1 w.2)
 ch:∀(j:Nat) (w w':Nat×Nat),ws[j]? =V w->ws[j+1]? =V w'->w.2<=w'.1
theorem WdI.nil (tx:ο):WdI [] tx []:=⟨rfl,λj w h=>by simp at h,λj w g h=>by simp at h⟩
theorem WdI.grow {L:List ο} {tx:ο} {g:List (Nat×Nat)} (h:WdI L tx g) (y:ο):WdI L (tx++y) g:=by refine ⟨h.len,λj w A=> ?_,h.ch⟩;obtain ⟨r,B,C⟩:=h.wd j w A;exact ⟨r,by rw [ByteArray.size_append];omega,by rw [Hb B];exact C⟩
theorem WdI.add {L:List ο} {tx:ο} {B:List (Nat×Nat)} (h:WdI L tx B) {s:ο} (J:0<s.size):WdI (L++[s]) (tx++s) (B++[(tx.size,tx.size+s.size)]):=by
 have D:=h.len;refine ⟨by rw [tT,tT,D];rfl,λj w r=> ?_,λj w G r g=> ?_⟩
 ·by_cases C:j<B.length
  ·rw [zM C] at r;obtain ⟨E,F,H⟩:=(h.grow s).wd j w r;exact ⟨E,F,by rw [zM (by omega)];exact H⟩
  ·have A:=(N6.1 r).1;rw [tT,Ub] at A;have:j=B.length:=by omega
   subst this;rw [Ua (ru _),X4] at r;cases r;refine ⟨by show tx.size<tx.size+s.size;omega,by rw [ByteArray.size_append];exact ru _,?_⟩;rw [D,Ua (ru _),X4,FE];rfl
 ·have A:=(N6.1 g).1;rw [tT,Ub] at A;rw [zM (by omega)] at r;by_cases C:j+1<B.length
  ·rw [zM C] at g;exact h.ch j w G r g
  ·rw [show j+1=B.length by omega,Ua (ru _),X4] at g;cases g;exact (h.wd j w r).2.1
def XF (ws:List (Nat×Nat)) (j:Nat):Int×Int:=(((ws.getD j (0,0)).1:Int),((ws.getD j (0,0)).2:Int))
def V1 (ws:List (Nat×Nat)) (e j:Nat):Int:=if j<ws.length then ((ws.getD j (0,0)).1:Int) else (e:Int)
theorem WdI.wds {L:List ο} {tx:ο} {g:List (Nat×Nat)} (h:WdI L tx g):Yv (XF g) (V1 g tx.size) g.length:=by
 intro j B;have w:g[j]? =V g[j]:=N5 B;have e:g.getD j (0,0)=g[j]:=by rw [QX,w];rfl
 obtain ⟨D,E,_⟩:=h.wd j _ w;unfold XF V1;rw [Χ B,e];refine ⟨rfl,by show ((g[j].1:Nat):Int)<(g[j].2:Nat);omega,?_⟩;show ((g[j].2:Nat):Int)<=_;split
 ·rename_i A;have r:g[j+1]? =V g[j+1]:=N5 A;have C:g.getD (j+1) (0,0)=g[j+1]:=by rw [QX,r];rfl
  have:=h.ch j _ _ w r;rw [C];omega
 ·omega
theorem Q9 (g:List (Nat×Nat)) (e j:Nat):0<=V1 g e j:=by unfold V1;split<;>omega
section
variable {g:Gr} {c:Cf}
theorem CU:∀(l:List Ttr),(∀k∈l,∀(s:Sy) (a:Nat),wi g c s k->∀y∈w6 a k,∃A,wi g c A y.1)->∀(r:List Sy) (a:Nat),TrL g c r l->∀y∈yP a l,∃A,wi g c A y.1
 |[],_,r,a,_,y,w=>by unfold yP at w;cases w
 |k::l,ih,[],a,h,y,w=>by unfold TrL at h;exact h.elim
 |k::l,ih,s::r,a,h,y,w=>by
  unfold TrL at h;rw [yP,vj] at w;rcases w with w|w
  ·exact ih k (by simp) s a h.1 y w
  ·exact CU l (λk B=>ih k (by simp [B])) r _ h.2 y w
theorem At:∀(t:Ttr) (s:Sy) (a:Nat),wi g c s t->∀y∈w6 a t,∃A,wi g c A y.1:=Ttr.ind (λC s a h y r=>by
  unfold w6 at r;rw [vu] at r;subst r
  exact ⟨s,h⟩) λD w ih s a h y r=>by
 rw [rJ] at r;rcases tS.1 r with rfl|r
 ·exact ⟨s,h⟩
 ·unfold wi at h;obtain ⟨p,_,_,_,B⟩:=h;exact CU w ih _ _ B y r
theorem Au (a:Nat) (m:Ttr) {T:List Tmn} (h:T.map Tmn.key=UQ m) {i:Nat} {x:Tmn} (w:T[i]? =V x):∃y,(w6 a m)[i]? =V y/\x.key=kS y.1:=by rw [<- we a] at h;have:=congrArg (·[i]?) h;simp only [yw,w,VD] at this;obtain ⟨y,r,A⟩:=Ze.1 this.symm;exact ⟨y,r,A.symm⟩
theorem Ra {s:Sy} {m:Ttr} {T:List Tmn} (G:T.map Tmn.key=UQ m) (F:wi g c s m) (H:∀x∈T,TmO x):∀x∈T,YY g x:=by
 intro x w;obtain ⟨i,hi⟩:=List.mem_iff_getElem?.1 w;obtain ⟨⟨y,a⟩,B,h⟩:=Au 0 m G hi;obtain ⟨L,r⟩:=At m s 0 F _ (vO B);cases y with
 |lf A=>unfold wi at r;exact .inl ⟨congrArg Prod.fst h,by rw [show x.tk=A from congrArg Prod.snd h];exact r.2.1,by rw [show x.tk=A from congrArg Prod.snd h];exact r.2.2.1⟩
 |nd E K=>unfold wi at r;obtain ⟨p,D,_⟩:=r;obtain ⟨q0,q1,_⟩:=bB D;have e:x.pr=E:=congrArg Prod.fst h;obtain ⟨C,J⟩:=(H x w).inn (by omega);exact .inr ⟨by omega,by omega,congrArg Prod.snd h,C,J⟩
theorem gJ {s:Sy} {m:Ttr} {T:List Tmn} (B:T.map Tmn.key=UQ m) (A:wi g c s m):∀i,i<=T.length->(lvs (T.take i)).length=VO ((w6 0 m).take i)
 |0,_=>by rw [z6,z6];rfl
 |i+1,h=>by
  have hi:T[i]? =V T[i]:=N5 (by omega);obtain ⟨y,r,w⟩:=Au 0 m B hi;rw [lM hi,tT,gJ B A i (by omega),bg r,ip,rI,Mx];congr 1;obtain ⟨G,C⟩:=At m s 0 A _ (vO r);obtain ⟨y,a⟩:=y;cases y with
  |lf H=>rw [Χ (by rw [show T[i].pr= -1 from congrArg Prod.fst w];decide)];rfl
  |nd E F=>unfold wi at C;obtain ⟨p,D,_⟩:=C;have:=(bB D).1;rw [Υ (by rw [show T[i].pr=E from congrArg Prod.fst w];omega)];rfl
end
instance:Mem (Nat×Nat) where
 n:=5
 rep _ x c:=∃(k:Int) (b:Bool) (s:Sl),c= #[U (x.1:Int),U (x.2:Int),U k,nW b,s.v]
 len h:=by obtain ⟨k,b,s,rfl⟩:=h;rfl
 le _ h:=h
 st h:=by obtain ⟨k,b,s,rfl⟩:=h;simp [ak,nI]
theorem TQ:∃b z,SlT 87 140 5 b z:=⟨_,_,underlying87,qfk,qfq,rfl,by decide,by decide⟩
structure Spw where
 g:Gr
 cs:Sl
 n:Sl
 tk:Sl
 s:Sl
 p:Sl
 lv:Sl
 f:Sl
abbrev Spw.arr (w:Spw) (tx:ByteArray) (ws rs:Sl) (en st:Int):Γ:= #[w.cs.v,w.n.v,U w.g.fam.2,w.tk.v,w.s.v,w.p.v,U w.g.start,w.lv.v,w.f.v,ph tx,ws.v,rs.v,U en,U st]
abbrev Spw.gv (w:Spw):Γ:=w.g.arr w.cs w.n w.tk w.s w.p w.lv w.f
abbrev SB (bx:Nat) (w:Spw) (tx:ByteArray) (ws rs:Sl) (en st:Int) (As:List (Ψ)):List (Ψ):=pt bx (Y (w.arr tx ws rs en st) 135)::As
theorem Rb {α h:Type} {F:PH} (L:(α->h->Ω)->α->h->Ω) {n K J:_} {r:Int} (Inv:Ψ) (M:Inv F) (hi: -1<=r/\r<n)
  (step:∀(x:α) (y:h) (i:Int) (F:PH) (N:α->h->Ω),-1<=i->i<n->Inv F->(∀A B g,0<=i->Inv g->N A B (i - 1) g)->L N x y i F):
  ∃(w:Nat->α->h->Ω) (m:Nat),w m K J r F/\∀m x y i F,w m x y i F->L (λa b c F=>∃C,C<m/\w C a b c F) x y i F:=by
 refine ⟨λm x y i g=>Inv g/\-1<=i/\i<n/\m=(i+1).toNat,(r+1).toNat,⟨M,hi.1,hi.2,rfl⟩,?_⟩;rintro m x y i g ⟨D,E,O,rfl⟩;exact step x y i g _ E O D λA B H P G=>⟨(i - 1+1).toNat,by omega,G,by omega,by omega,rfl⟩
section
variable {F G:PH} {w:Spw} {bx:Nat} {tx s:ο} {ws rs:Sl} {en st:Int} {As:List (Ψ)}
theorem qh3 (B:F.cell (oB bx 9 I)=V (ph tx)) (M:tx.size<=1000000000):ν 89 #[Pp bx] F λr A=>(∃n b,r=po #[U n,nW b])/\A=F:=by
 refine qf7 ?_;unfold UK;refine ⟨_,rfl,_,B,Rb (λN x y i A=>Ba N (oB bx 0 I) _ x y i A) (n:=(tx.size:Int)) (λA=>A=F) rfl ?_ ?_⟩
 ·rw [aJ (by omega)];omega
 intro n o i A N L E e next;subst e;unfold Ba;have C:∀(K:Int) (J:Bool),0<=i->rn N (oB bx 0 I) i K J (λr D=>(∃n b,r=po #[U n,nW b])/\D=A) A:=λK J g=>by unfold rn;rw [aJ (by omega)];exact next _ _ _ g rfl
 have H:0<=i->i.toNat<tx.size:=λh=>by omega
 exact ⟨λg=>⟨_,B,g,E,H g,_,rfl,λ_=>⟨λ_=>⟨_,B,g,E,H g,_,rfl,λ_=>C _ _ g,λ_=>⟨_,B,g,E,H g,_,rfl,C _ _ g⟩⟩,λ_=>C _ _ g⟩,λ_=>⟨⟨_,_,rfl⟩,rfl⟩⟩,λ_=>⟨⟨_,_,rfl⟩,rfl⟩⟩
theorem qS {tok:Int} (h:St G F (SB bx w tx ws rs en st As)) (O:tx.size+s.size<=1000000000):
  ν 58 #[Pp bx,ph s,U tok] F λr B=>∃A c,r=nQ c/\Mem.rep A ((tx.size,tx.size+s.size):Nat×Nat) c/\G.le A/\St A B (SB bx w (tx++s) ws rs en st As):=by
 refine qgR ?_;unfold UC;refine h.new λK N h=> ?_;refine (qh3 (h.ld1 (i:=9) rfl) (by omega)).mono ?_;rintro _ F2 ⟨⟨n,o,rfl⟩,rfl⟩;have e:i64.wrap ((tx.size:Int)+(s.size:Int))=((tx.size+s.size:Nat):Int):=by rw [aJ (by omega)];omega
 refine ⟨_,_,rfl,_,rfl,_,h.ld1 (i:=9) rfl,_,h.ld1 (i:=9) rfl,?_⟩;dsimp only;rw [e];have J:∀{A B:PH} {C g:Nat},G.le A->St A B (pt C (Y #[U (tx.size:Int),U ((tx.size+s.size:Nat):Int),U n,nW o,nI (Sb g 1)] 140)::pt K (Y #[U 0,U 0,U 0,.bool mD,.slice I 0 0] 140)::SB bx w tx ws rs en st As)->vJ (V (oB bx 0 I)) s K (V (Z C 0)) (λr B=>∃A c,r=nQ c/\Mem.rep A ((tx.size,tx.size+s.size):Nat×Nat) c/\G.le A/\St A B (SB bx w (tx++s) ws rs en st As)) B:=λ{A B C g} l h=>by unfold vJ;refine ⟨_,rfl,_,h.ld2 (i:=9) rfl,by omega,h.set2 (w':=w.arr (tx++s) ws rs en st) (vr rfl) rfl λE h=>⟨_,rfl,_,rfl,h.whole0,?_⟩⟩;exact h.put1 (w':= #[U (tx.size:Int),U ((tx.size+s.size:Nat):Int),U n,nW o,nI (Sb g 1)]) rfl rfl (by simp [ak,nI]) λH h=>⟨_,rfl,h.whole1,A,_,rfl,⟨_,_,_,rfl⟩,l,h.tail.tail⟩
 refine ⟨h.newG λg L E D q _ h=>h.new λC H h=>h.put0 (w':= #[U (tx.size:Int),U ((tx.size+s.size:Nat):Int),U n,nW o,nI (Sb g 1)]) rfl rfl (by simp [ak,nI]) λM h=>J D h,h.new λC E h=>h.newG λg L H D q _ h=>h.put0 (w':= #[U (tx.size:Int),U ((tx.size+s.size:Nat):Int),U n,nW o,nI (Sb g 1)]) rfl rfl (by simp [ak,nI]) λM h=>J D h⟩
theorem ku {l:Sl} {L:List ο} {a6:Ξ} (ht:RL G w.tk w.g.qa2) (hT:w.g.qa2.length<=256) (hl:RL G l L) (hL:∀x∈L,ByteArray.size x<=4) (c6:L.length<=3) (d1:tx.size<=900000000) (d0:rs.len<=300000000)
  (h:St G F (SB bx w tx ws rs en st (own rs 140 5 a6::As))):
  ν 57 #[Pp bx,l.v] F λr D=>r=po #[]/\∃(C:PH) (y:ο) (A:Sl) (B:Ξ),G.le C/\y.size<=15/\A.len<=rs.len+3/\St C D (SB bx w (tx++y) ws A en st (own A 140 5 B::As)):=by
 have el:=hl.len;have et:=ht.len;refine qgQ ?_;unfold UB;refine bD (λN i D=>A3 N (V (oB bx 0 I)) l _ i D) L.length (λi D=>∃(C:PH) (y:ο) (A:Sl) (B:Ξ),G.le C/\y.size<=5*i/\A.len<=rs.len+i/\St C D (SB bx w (tx++y) ws A en st (own A 140 5 B::As))) ⟨G,.empty,rs,a6,au _,yA _,ru _,by rw [show tx++ByteArray.empty=tx from ByteArray.append_empty];exact h⟩ ?_;rintro i F1 N hi ⟨G1,y,E,H,l1,hy,b6,h⟩ next;unfold A3;refine ⟨λK=> ?_,λb4=>⟨rfl,G1,y,E,H,l1,by omega,by omega,h⟩⟩;have K:i<L.length:=by omega
 have hx:L[i]? =V L[i]:=N5 K;have b1:=hL _ (Vc K);generalize L[i]=x at hx b1;have j1:∀{C D:PH} {y':ο} {A:Sl} {B:Ξ},G1.le C->y'.size<=5*(i+1)->A.len<=rs.len+(i+1)->St C D (SB bx w (tx++y') ws A en st (own A 140 5 B::As))->vI N (V (oB bx 0 I)) l i (λr D=>r=po #[]/\∃(C:PH) (y:ο) (A:Sl) (B:Ξ),G.le C/\y.size<=15/\A.len<=rs.len+3/\St C D (SB bx w (tx++y) ws A en st (own A 140 5 B::As))) D:=λ{C D y' A B} l2 a b h=>by unfold vI;rw [aC K];exact next _ K ⟨C,y',A,B,aa l1 l2,a,b,h⟩
 refine bD (λN2 t D=>A2 N N2 (V (oB bx 0 I)) l i _ t D) w.g.qa2.length (λ_ D=>∃C:PH,G1.le C/\St C D (SB bx w (tx++y) ws E en st (own E 140 5 H::As))) ⟨G1,au _,h⟩ ?_;rintro t F2 N2 d2 ⟨G2,l2,h⟩ a0;have b0:=aa l1 l2;unfold A2;refine ⟨_,rfl,w.tk,h.ld0 (i:=3) rfl,λJ=> ?_,λ_=>j1 l2 (by omega) (by omega) h⟩;have J:t<w.g.qa2.length:=by omega
 have n2:∀{C D:PH},G2.le C->St C D (SB bx w (tx++y) ws E en st (own E 140 5 H::As))->N2 (i64.wrap ((t:Int)+1)) D:=λl h=>by rw [aC J];exact a0 _ J ⟨_,aa l2 l,h⟩
 have a4:∀{C D:PH},G2.le C->St C D (SB bx w (tx++y) ws E en st (own E 140 5 H::As))->rj N N2 (oB bx 0 I) l i t mD (λr D=>r=po #[]/\∃(C:PH) (y:ο) (A:Sl) (B:Ξ),G.le C/\y.size<=15/\A.len<=rs.len+3/\St C D (SB bx w (tx++y) ws A en st (own A 140 5 B::As))) D:=λl h=>by unfold rj;exact ⟨λhn=>(by cases hn),λ_=>n2 l h⟩
 refine ⟨w.tk,h.ld0 (i:=3) rfl,?_⟩;have a9:=ht.le b0;have a2:=hl.le b0;refine t8 a9 (by decide) (by omega) (by omega) λb9 cc z hz O hc=> ?_;have X:=aN h.le O;obtain ⟨p9,n9,e9,_⟩:=id hc;refine ⟨z.cls,aM X (i:=1) (by rw [e9];rfl),λb5=> ?_,λ_=>a4 (au _) h⟩;refine ⟨w.tk,h.ld0 (i:=3) rfl,t8 a9 (by decide) (by omega) (by omega) λc9 c2 z2 b7 W a7=>⟨c2,Mem.len a7,aN h.le W,?_⟩⟩;refine t8 a2 (by decide) (by omega) (by omega) λb8 c3 x3 a5 R b2=> ?_;rw [N4,hx] at a5;cases a5;obtain rfl:c3= #[ph x]:=b2;refine ⟨x,aE (aN h.le R) rfl,?_⟩;refine h.run (P:=λr _=>∃b,r=nW b) (ib a7 (by omega)) λr G3 F3 hr l3 h=> ?_;obtain ⟨b,rfl⟩:=hr;have a8:=aM (aN (aa l3 h.le) O) (i:=1) (v:=U z.cls) (by rw [e9];rfl);refine ⟨b,rfl,h.ld0 (i:=3) rfl,a8,h.ld0 (i:=3) rfl,?_⟩;cases b with
 |false=>exact a4 l3 h
 |true=>unfold rj;refine ⟨λ_=> ?_,λhn=>(by cases hn)⟩;refine ⟨E,h.ld0 (i:=11) rfl,?_⟩;refine t8 (a2.le l3) (by decide) (by omega) (by omega) λc8 c4 x4 M a1 b3=> ?_;rw [N4,hx] at M;cases M;obtain rfl:c4= #[ph x]:=b3;refine ⟨x,aE (aN h.le a1) rfl,?_⟩;refine (qS h (by rw [ByteArray.size_append];omega)).mono ?_;rintro _ F4 ⟨G4,c5,rfl,Q,l4,h⟩;obtain ⟨_,_,TV⟩:=TQ;refine ⟨c5,rfl,h.ld0 (i:=11) rfl,Mem.len Q,?_⟩;refine h.push1 TV (c:=c5) (Mem.len Q) (Mem.st Q) (by omega) λa3 G5 F5 l5 h c7=> ?_;refine h.set0 (w':=w.arr (tx++y++x) ws a3 en st) (vr rfl) rfl λF6 h=> ?_;refine ⟨_,h.ld0 (i:=9) rfl,by rw [ByteArray.size_append,ByteArray.size_append];show _+1<=_;omega,?_⟩;refine h.set0 (w':=w.arr (tx++y++x++ByteArray.mk #[10]) ws a3 en st) (vr rfl) rfl λF7 h=> ?_;rw [ByteArray.append_assoc,ByteArray.append_assoc] at h;exact j1 (aa l2 (aa l3 (aa l4 l5))) (by rw [ByteArray.size_append,ByteArray.size_append];show _+(_+1)<=_;omega) (by omega) h
end
theorem Rc {α g:Type} {F:PH} (L:(α->g->Ω)->α->g->Ω) (n:Nat) (Inv:Nat->α->g->Ψ) (D:α) (C:g) (H:Inv 0 D C F)
  (step:∀(k:Nat) (x:α) (y:g) (F:PH) (N:α->g->Ω),k<=n->Inv k x y F->(∀r w h,k<n->Inv (k+1) r w h->N r w ((k+1:Nat):Int) h)->L N x y (k:Int) F):
  ∃(A:Nat->α->g->Ω) (m:Nat),A m D C (0:Int) F/\∀m x y v F,A m x y v F->L (λa b c F=>∃E,E<m/\A E a b c F) x y v F:=by
 refine ⟨λm x y i h=>∃k:Nat,i=k/\k<=n/\m=n - k/\Inv k x y h,n,⟨0,rfl,by omega,rfl,H⟩,?_⟩;rintro m x y i h ⟨k,rfl,K,rfl,hi⟩;exact step k x y h _ K hi λr w J G B=>⟨n - (k+1),by omega,k+1,rfl,by omega,rfl,B⟩
theorem Rd {α:Type} {F:PH} (L:(α->Ω)->α->Ω) (i n:Nat) (Inv:Nat->α->Ψ) (A:α) (G:Inv 0 A F)
  (step:∀(k:Nat) (x:α) (F:PH) (N:α->Ω),k<=n->Inv k x F->(∀h g,k<n->Inv (k+1) h g->N h ((i+k+1:Nat):Int) g)->L N x ((i+k:Nat):Int) F):
  ∃(r:Nat->α->Ω) (m:Nat),r m A (i:Int) F/\∀m x v F,r m x v F->L (λy z F=>∃B,B<m/\r B y z F) x v F:=by
 refine ⟨λm x j g=>∃k:Nat,j=((i+k:Nat):Int)/\k<=n/\m=n - k/\Inv k x g,n,⟨0,rfl,by omega,rfl,G⟩,?_⟩;rintro m x j g ⟨k,rfl,E,rfl,hi⟩;exact step k x g _ E hi λh D C w=>⟨n - (k+1),by omega,k+1,rfl,by omega,rfl,w⟩
abbrev kL (l:List Nod):Ξ:=l.flatMap λx=>x.arr.toList
theorem RL.nods {F:PH} {s:Sl} {l:List Nod}:RL F s l↔RdS F s 4 (kL l):=RL.flat (f:=Nod.arr) (λ_ _ _=>Iff.rfl)
structure SpO (T:List Tmn) (m:Ttr) (tx:ByteArray) (ws:List (Nat×Nat)):Prop where
 wd:WdI (lvs T) tx ws
 len:ws.length=yC m
 sz:tx.size<=100000000
abbrev zI (tx:ByteArray) (ws:List (Nat×Nat)) (m:Ttr):Dtr:=yb (XF ws) (V1 ws tx.size) 0 m
def Y1 (F:PH) (T:List Tmn) (m:Ttr) (r:ξ) (F':PH):Prop:=∃(tx:ο) (p:Γ) (t:Sl) (ws:List (Nat×Nat)),r=po #[ph tx,nQ p,t.v]/\p.size=4/\(∀x∈p.toList,ak x)/\SpO T m tx ws/\RL F' t (vA (zI tx ws m))/\F.le F'
section
variable {F G:PH} {w:Spw} {bx:Nat} {ws:List (Nat×Nat)} {g:Gr} {c:Cf} {T:List Tmn} {m:Ttr} {tx:ο} {wl:Sl}
theorem Re {e j:Nat} {x:Nat×Nat} (h:ws[j]? =V x):V1 ws e j=(x.1:Int):=by unfold V1;rw [Χ (N6.1 h).1,QX,h];rfl
theorem Av {j:Nat} {x:Nat×Nat} (h:ws[j]? =V x):XF ws j=((x.1:Int),(x.2:Int)):=by unfold XF;rw [QX,h];rfl
theorem yc {M:Sl} {st:Int} {e k:Nat} (D:RL F wl ws):ν 60 #[nQ #[wl.v,M.v,U (e:Int),U st],U (k:Int)] F λr J=>r=U (V1 ws e k)/\F.le J:=by
 have Q:=D.len;refine qgS ?_;unfold UE;refine (St.start F).newG λR O N E q2 _ h=> ?_;have q:=h.le _ _ q2;have C:=aa E h.le;refine ⟨wl,ld q rfl,λL=>⟨wl,ld q rfl,?_⟩,λH=>⟨_,ld q (i:=2) rfl,?_,C⟩⟩
 ·refine t8 (D.le E) (by decide) (by omega) (by omega) λa X x B A K=> ?_;rw [N4] at B;obtain ⟨a1,W,P,rfl⟩:=K;exact ⟨_,aE (aN h.le A) rfl,by rw [Re B],C⟩
 ·unfold V1;rw [Υ (by omega)]
theorem LY {i:Nat} {rest:List (Int×Int)} (h:(T.map Tmn.key).drop i=UQ m++rest):((T.drop i).take (yT m)).map Tmn.key=UQ m:=by rw [List.map_take,List.map_drop,h,<- eT m,List.take_left]
theorem LZ {s:Sy} {i:Nat} {rest:List (Int×Int)} (h:(T.map Tmn.key).drop i=UQ m++rest) (A:wi g c s m):(lvs ((T.drop i).take (yT m))).length=yC m:=by have r:=LY h;have B:=congrArg List.length r;rw [ub,eT] at B;have:=gJ r A (yT m) (by omega);rw [List.take_take,Nat.min_self] at this;rw [this,show yT m=(w6 0 m).length from rfl,wB,wc]
theorem qh4 {vg:Γ} {n tl rl:Sl} {b3 b4 b7 M:Nat} {st:Int} {s:Sy} {R:VR} {z7:Γ} {As:List (Ψ)} (q3:G b3=V (Y vg 39)) (hg:GV G vg g) (q4:G b4=V (Y #[n.v,tl.v] 94)) (hn:RL G n T) (a2:G M=V (Y (w.arr tx wl rl (tx.size:Int) st) 135)) (hw:RL G wl ws)
  (hk:T.map Tmn.key=UQ m) (b0:wi g c s m) (ho:∀x∈T,YY g x) (hT:T.length<=1000000) (g5:ws.length=yC m) (h:St G F (pt b7 (Y z7 89)::As)) (d4:z7.size=4)
  (hR:∀B C t,G.le B->RL B t (vA (zI tx ws m))->St B C As->R (po #[ph tx,nQ #[wl.v,rl.v,U (tx.size:Int),U st],t.v]) C):
  ∃(I1:Nat->Sl->Int->Ω) (m1:Nat),I1 m1 pm (0:Int) (0:Int) F/\∀m1 o k i F,I1 m1 o k i F->vF (λy0 y1 y2 F=>∃m',m'<m1/\I1 m' y0 y1 y2 F) b3 b4 b7 M R o k i F:=by
 have en:=hn.len;have ew:=hw.len;have f5:T.length=yT m:=by have:=congrArg List.length hk;rwa [ub,eT] at this
 have d2:vA (zI tx ws m)=(w6 0 m).map λx=>(yb (XF ws) (V1 ws tx.size) x.2 x.1).root:=IG _ _ m 0;have f3:∀i,i<=T.length->(lvs (T.take i)).length<=yC m:=λi hi=>by rw [gJ hk b0 i hi,<- wc m 0];have:=ip ((w6 0 m).take i) ((w6 0 m).drop i);rw [W5] at this;omega
 have h:=(h.push (A:=own pm 47 4 (kL [])) (H:=λ_=>I) (.inl ⟨rfl,rfl⟩) (λb hb=>absurd rfl hb) (λb o hb=>by cases hb) (au _));refine Rc (λN x y v F=>vF N b3 b4 b7 M _ x y v F) T.length (λi o k C=>∃B:PH,G.le B/\k=((lvs (T.take i)).length:Int)/\St B C (own o 47 4 (kL ((vA (zI tx ws m)).take i))::pt b7 (Y z7 89)::As)) pm 0 ⟨G,au _,rfl,h⟩ ?_;rintro i o _ F1 N hi ⟨G1,l1,rfl,h⟩ next;unfold vF;refine ⟨n,ld (h.le _ _ (l1 _ _ q4)) rfl,λa3=> ?_,λg4=> ?_⟩
 ·have a3:i<T.length:=by omega
  have ol:=(h.ownAt (i:=0) rfl).1.rd.len;have g8:o.len<=1000000:=by
   have h1:(kL ((vA (zI tx ws m)).take i)).length=((vA (zI tx ws m)).take i).length*4:=by
    generalize (vA (zI tx ws m)).take i=l;induction l with
    |nil=>rfl
    |cons x l ih=>rw [wg,Wn,<- ih];show (x.arr.toList++kL l).length=_;rw [tT,XM];rfl
   rw [h1] at ol;have:=List.length_take_le i (vA (zI tx ws m));omega
  have hx:T[i]? =V T[i]:=N5 a3;generalize T[i]=x at hx;obtain ⟨⟨ym,a⟩,hy,L⟩:=Au 0 m hk hx;have a7:a=(lvs (T.take i)).length:=by have:=R8 m 0 i _ hy;rw [gJ hk b0 i hi];omega
  obtain ⟨sy,a4⟩:=At m s 0 b0 _ (vO hy);have b6:(vA (zI tx ws m))[i]? =V (yb (XF ws) (V1 ws tx.size) a ym).root:=by rw [d2,yw,hy];rfl
  have a8:(vA (zI tx ws m)).take (i+1)=(vA (zI tx ws m)).take i++[(yb (XF ws) (V1 ws tx.size) a ym).root]:=bg b6;have a5:=lM hx;have g9:a<=1000000:=by have h1:(lvs (T.take i)).length<=(T.take i).length:=List.length_filterMap_le _ _;have:=List.length_take_le i T;omega
  have j4:∀{B C:PH} {J:Nat} {k':Int} {y:Nod},G1.le B->(yb (XF ws) (V1 ws tx.size) a ym).root=y->k'=((lvs (T.take (i+1))).length:Int)->St B C (pt J (Y y.arr 47)::own o 47 4 (kL ((vA (zI tx ws m)).take i))::pt b7 (Y z7 89)::As)->vD N b3 b4 b7 M o i J k' R C:=λ{B C J k' y} l e e2 h=>by unfold vD;obtain ⟨_,_,TV⟩:=qcQ;refine ⟨y.arr,rfl,h.whole0,rfl,?_⟩;refine h.push1 TV (c:=y.arr) rfl (by simp [ak]) (by omega) λo' G2 F2 l2 h _=> ?_;unfold H0;rw [aC a3,e2];refine next _ _ _ a3 ⟨G2,aa l1 (aa l l2),rfl,?_⟩;rw [a8,e];show St G2 F2 (own o' 47 4 (List.flatMap (λx:Nod=>x.arr.toList) (_++[y]))::_);rw [XV];simpa using h.tail
  have c2:=hn.le l1;refine ⟨n,ld (h.le _ _ (l1 _ _ q4)) rfl,?_⟩;refine t8 c2 (by decide) (by omega) (by omega) λf9 cc x' X d1 hc=> ?_;rw [N4,hx] at X;cases X;obtain ⟨r,rfl,_⟩:=id hc;refine ⟨x.pr,aE (aN h.le d1) rfl,n,ld (h.le _ _ (l1 _ _ q4)) rfl,?_⟩;refine t8 c2 (by decide) (by omega) (by omega) λf6 g6 x' X b5 e8=> ?_;rw [N4,hx] at X;cases X;obtain ⟨r2,rfl,_⟩:=e8;refine ⟨x.tk,aM (aN h.le b5) (i:=1) rfl,?_⟩;refine h.new λJ F2 h=>h.put0 (w':= #[U x.pr,U x.tk,U 0,U 0]) rfl rfl (by simp [ak]) λF3 h=> ?_;refine ⟨x.pr,h.ld0 (i:=0) rfl,λd0=> ?_,λf4=> ?_⟩
  ·
   rw [Χ d0] at a5;have ek:(lvs (T.take (i+1))).length=a+1:=by rw [a5,tT,<- a7];rfl
   have ha:a<ws.length:=by have:=f3 (i+1) (by omega);omega
   have a6:ws[a]? =V ws[a]:=N5 ha;generalize ws[a]=u at a6;have e3:∃tk,ym=.lf tk/\x.pr= -1/\x.tk=tk:=by
    cases ym with
    |lf tk=>exact ⟨tk,rfl,congrArg Prod.fst L,congrArg Prod.snd L⟩
    |nd O ks=>unfold wi at a4;obtain ⟨p,p1,_⟩:=a4;have:=(bB p1).1;have e:x.pr=O:=congrArg Prod.fst L;omega
   obtain ⟨tk,rfl,e1,e2⟩:=e3;have Q:∀{B C:PH},G1.le B->B.le C->C.cell (oB M 10 I)=V wl.v:=λl l'=>ld (l' _ _ (l _ _ (l1 _ _ a2))) (i:=10) rfl;rw [<- a7];refine ⟨wl,Q (au _) h.le,?_⟩;refine t8 (hw.le l1) (by decide) (by omega) (by omega) λg1 c3 u' a0 b2 e9=> ?_;rw [N4,a6] at a0;cases a0;obtain ⟨k1,k2,k3,rfl⟩:=e9;refine ⟨_,aE (aN h.le b2) rfl,?_⟩;refine h.set0 (w':= #[U x.pr,U x.tk,U (u.1:Int),U 0]) (vr rfl) rfl λF4 h=> ?_;refine ⟨wl,Q (au _) h.le,?_⟩;refine t8 (hw.le l1) (by decide) (by omega) (by omega) λg2 c4 u' a0 b9 f1=> ?_;rw [N4,a6] at a0;cases a0;obtain ⟨k4,k5,k6,rfl⟩:=f1;refine ⟨_,aM (aN h.le b9) (i:=1) rfl,?_⟩;refine h.set0 (w':= #[U x.pr,U x.tk,U (u.1:Int),U (u.2:Int)]) (vr rfl) rfl λF5 h=> ?_;refine j4 (y:=⟨x.pr,x.tk,u.1,u.2⟩) (au _) ?_ ?_ h
   ·unfold yb;show (⟨-1,tk,_,_⟩:Nod)=_;rw [Av a6,e1,e2]
   ·rw [aC (n:=1000001) (by omega) (by omega),ek]
  ·
   rw [Υ f4,yt] at a5;have e4:∃O ks,ym=.nd O ks/\x.pr=O/\x.tk= -1:=by
    cases ym with
    |lf tk=>have e:x.pr= -1:=congrArg Prod.fst L;omega
    |nd O ks=>exact ⟨O,ks,rfl,congrArg Prod.fst L,congrArg Prod.snd L⟩
   obtain ⟨O,ks,rfl,e1,e2⟩:=e4;have W:∃rest,(T.map Tmn.key).drop i=UQ (.nd O ks)++rest:=by obtain ⟨b,d,e,hb⟩:=FZ m 0 i _ hy;refine ⟨d.map λx=>kS x.1,?_⟩;rw [hk,<- we 0 m,e,yW,yW,<- hb,<- ub (f:=λx:Ttr×Nat=>kS x.1),xZ,List.drop_left,we]
   obtain ⟨rest,W⟩:=W;have c9:=LZ W a4;have g7:i+yT (.nd O ks)<=T.length:=by have:=congrArg List.length W;rw [W8,ub,tT,eT] at this;have:=kT (.nd O ks);omega
   rw [<- a7];generalize hz:yT (.nd O ks)=z at*;refine Rd (λN2 x v F=>AZ N N2 b3 b4 b7 M o a i J R x v F) i z (λd q C=>∃B:PH,G1.le B/\q=((a+(lvs ((T.drop i).take d)).length:Nat):Int)/\St B C (pt J (Y #[U x.pr,U x.tk,U 0,U 0] 47)::own o 47 4 (kL ((vA (zI tx ws m)).take i))::pt b7 (Y z7 89)::As)) (a:Int) ⟨G1,au _,rfl,h⟩ ?_;rintro d _ F4 N2 hd ⟨G2,l2,rfl,h⟩ a1;have P:=aa l1 l2;unfold AZ;refine ⟨vg,hg.size,ai (h.le _ _ (P _ _ q3)),n,ld (h.le _ _ (P _ _ q4)) rfl,?_⟩;refine h.runv (Ha ho hT _ (hg.le P) (hn.le P) a4 W) λG3 F5 l3 h=>⟨_,rfl,λD=> ?_,λc6=> ?_⟩
   ·rw [hz] at D;have D:d<z:=by omega
    have K:=aa P l3;refine ⟨n,ld (h.le _ _ (K _ _ q4)) rfl,?_⟩;refine t8 (hn.le K) (by decide) (by omega) (by omega) λg3 c5 x5 c8 b1 e0=> ?_;rw [N4] at c8;obtain ⟨r5,rfl,_⟩:=e0;have b8:(T.drop i)[d]? =V x5:=by rw [List.getElem?_drop];exact c8
    have e5:=congrArg List.length (lM b8);rw [tT] at e5;have h0:(lvs ((T.drop i).take d)).length<=T.length:=by unfold lvs;refine WA (List.length_filterMap_le _ _) ?_;have:=List.length_take_le' d (T.drop i);rw [W8] at this;omega
    refine ⟨x5.pr,aE (aN h.le b1) rfl,λa9=> ?_,λa9=> ?_⟩
    ·unfold vE;rw [Χ a9] at e5;have e6:i64.wrap (((a+(lvs ((T.drop i).take d)).length:Nat):Int)+1)=((a+(lvs ((T.drop i).take (d+1))).length:Nat):Int):=by rw [aJ (by omega),e5,Ub];omega
     rw [e6,aC (n:=1000000) (by omega) (by omega)];exact a1 _ _ D ⟨G3,aa l2 l3,rfl,h⟩
    ·unfold vE;rw [Υ a9] at e5;rw [aC (n:=1000000) (by omega) (by omega)];refine a1 _ _ D ⟨G3,aa l2 l3,?_,h⟩;rw [e5];rfl
   ·rw [hz] at c6;have:d=z:=by omega
    subst this;rw [c9];have K:=aa P l3;have E:=h.le _ _ (K _ _ a2);unfold Ia;refine ⟨#[wl.v,rl.v,U (tx.size:Int),U st],rfl,ga E rfl,?_⟩;refine h.runv (yc (hw.le K)) λG4 F6 l4 h=>⟨_,rfl,?_⟩;refine h.set0 (w':= #[U x.pr,U x.tk,U (V1 ws tx.size a),U 0]) (vr rfl) rfl λF7 h=> ?_;have d3:=aa K l4;refine ⟨#[wl.v,rl.v,U (tx.size:Int),U st],rfl,ga (h.le _ _ (d3 _ _ a2)) rfl,?_⟩;refine h.runv (yc (hw.le d3)) λG5 F8 l5 h=>⟨_,rfl,?_⟩;refine h.set0 (w':= #[U x.pr,U x.tk,U (V1 ws tx.size a),U (V1 ws tx.size (a+yC (.nd O ks)))]) (vr rfl) rfl λF9 h=> ?_;refine j4 (y:=⟨x.pr,x.tk,_,_⟩) (aa l2 (aa l3 (aa l4 l5))) ?_ ?_ h
    ·unfold yb;show (⟨O,-1,_,_⟩:Nod)=_;rw [e1,e2];rfl
    ·rw [a5,a7]
 ·have:i=T.length:=by omega
  subst this;have c7:(vA (zI tx ws m)).take T.length=vA (zI tx ws m):=by refine zh ?_;rw [d2,ub,f5];exact ru _
  rw [c7] at h;have E:=λ{C:PH} (l:G1.le C)=>l _ _ (l1 _ _ a2);unfold HZ;refine ⟨tx,ld (E h.le) (i:=9) rfl,#[wl.v,rl.v,U (tx.size:Int),U st],rfl,ga (E h.le) rfl,?_⟩;refine h.put1 (w':= #[wl.v,rl.v,U (tx.size:Int),U st]) rfl d4 (by simp [ak,nI]) λF2 h=>⟨_,rfl,h.whole1,?_⟩;obtain ⟨G2,l2,e7,h⟩:=h.pinO;exact hR G2 F2 o (aa l1 l2) (RL.nods.2 e7) h.tail
end
theorem TR {r C g w D A B E h:ξ}:wr (#[tX I 0 0,.slice I 0 0,U 0,.slice I 0 0,.slice I 0 0,.slice I 0 0,U 0,.slice I 0 0,.slice I 0 0,.string ⟨#[]⟩,tX I 0 0,.slice I 0 0,U 0,U 0]:Γ) 0 (#[r,C,g,w,D,A,B,E,h]:Γ).toList= #[r,C,g,w,D,A,B,E,h,.string .empty,tX I 0 0,.slice I 0 0,U 0,U 0]:=by kernel_rfl
section
variable {F G:PH} {g:Gr} {c:Int} {T:List Tmn} {m:Ttr} {tl:List ο}
theorem Hc {G F:PH} {As:List (Ψ)} {o:Sl} {e i:Nat} {vs:List Γ} {w:List (Nat×Nat)} (A:bS G w vs) (h:St G F As) (hi:As[i]? =V (own o e 5 (tZ vs))):o.len=w.length:=by have r:=(h.ownAt hi).1.rd.len;rw [A.cat_len] at r;have r:w.length*5=o.len*5:=r;omega
def ZH (G0:PH) (b7 b22:Nat) (w:Spw) (T:List Tmn) (i:Nat) (o:Sl) (F:PH):Prop:=
 ∃(G:PH) (tx:ο) (wl rl:Sl) (ws:List (Nat×Nat)) (vs:List Γ) (rv is:Ξ),G0.le G/\WdI (lvs (T.take i)) tx ws/\tx.size<=1016*i/\rl.len<=3*i/\is.length=ws.length/\bS G ws vs/\
  St G F (SB b22 w tx wl rl 0 0 [own rl 140 5 rv,own wl 140 5 (tZ vs),own o 3 1 is,pt b7 (Y #[tX I 0 0,.slice I 0 0,U 0,U 0] 89)])
theorem Aw {w:Spw} {s:Sy} {n t:Sl} {b3 b4 b7 J:Nat} {F0:PH} {o:Sl} (lF:F0.le G) (E:GS G w.g w.cs w.n w.tk w.s w.p w.lv w.f) (R:w.g.qa2.length<=256) (q3:G b3=V (Y w.gv 39)) (q4:G b4=V (Y #[n.v,t.v] 94)) (hn:RL G n T) (ht:RL G t tl)
  (M:T.map Tmn.key=UQ m) (C:wi w.g (wu c) s m) (a5:yT m<=44537) (W:∀x∈T,TmO x) (t3:tl.length<=3) (t4:∀x∈tl,ByteArray.size x<=4) (hI:ZH G b7 J w T T.length o F):A0 b3 b4 b7 J (Y1 F0 T m) F:=by
 obtain ⟨G1,tx,wl,rl,ws,vs,rv,is,N,r,a4,a3,a1,hr,h⟩:=hI;have a0:T.length=yT m:=by have:=congrArg List.length M;rwa [ub,eT] at this
 rw [wB] at r;have K:ws.length=yC m:=by have:=gJ M C T.length (ru _);rw [wB] at this;rw [r.len,this,a0,show yT m=(w6 0 m).length from rfl,wB,wc]
 unfold A0;refine ⟨t,ld (h.le _ _ (N _ _ q4)) (i:=1) rfl,?_⟩;refine (ku (E.t.le N) R (ht.le N) t4 t3 (by omega) (by omega) h).mono ?_;rintro _ F2 ⟨rfl,G2,y,L,a2,l2,hy,_,h⟩;have B:(tx++y).size<=100000000:=by rw [ByteArray.size_append];omega
 have r:=r.grow y;generalize tx++y=D at r h B;refine ⟨rfl,D,h.ld0 (i:=9) rfl,?_⟩;refine h.set0 (w':=w.arr D wl L (D.size:Int) 0) (vr rfl) rfl λF3 h=> ?_;refine h.set0 (w':=w.arr D wl L (D.size:Int) (-1)) (vr rfl) rfl λF4 h=> ?_;obtain ⟨G3,l3,⟨H,hA,hH⟩,h⟩:=h.pin;have X:=hH _ _ hA;obtain ⟨G4,O,P,h⟩:=h.tail.pinO;have A:=aa N (aa l2 (aa l3 O));refine qh4 (As:=[]) (A _ _ q3) ⟨_,_,_,_,_,_,_,rfl,E.le A⟩ (A _ _ q4) (hn.le A) (O _ _ X) ⟨vs,hr.le (aa l2 (aa l3 O)),P⟩ M C (Ra M C W) (by omega) K h.tail rfl ?_;intro G' F' tt l' Q h;exact ⟨D,_,tt,ws,rfl,rfl,by simp [ak,nI],⟨r,K,B⟩,Q.le h.le,aa lF (aa A (aa l' h.le))⟩
theorem oD {v vt:Γ} {s:Sy} {l:Sl} {N:Δ} (hg:GV F v g) (hk:OkG g) (hm:TmV F g c s vt T tl m) (hl:RdS F l 1 (N.map vB)):ν 28 #[nQ v,nQ vt,l.v] F (Y1 F T m):=by
 obtain ⟨⟨n,t,rfl,hn,ht⟩,b1,c5,d4,b6,t3,t4⟩:=hm;obtain ⟨o1,M,o3,o4⟩:=dm hk;have hv:=hg.size;have g3:=hg;obtain ⟨cs,nn,tk,ss,ps,lv,f,rfl,hs⟩:=hg;have f6:T.length=yT m:=by have:=congrArg List.length b1;rwa [ub,eT] at this
 have en:=hn.len;have e0:=hl.len;rw [ub,xF] at e0;refine qgN ?_;unfold Uy;refine (St.start F).newG λb3 G1 F1 l1 q3 _ h=>h.newG λb4 G2 F2 l2 q4 _ h=>h.new λX F3 h=> ?_;have K:=aa l1 l2;refine ⟨_,hv,ai (h.le _ _ (l2 _ _ q3)),hv,?_⟩;have h:=(((h.push (A:=own pm 3 1 []) (H:=λ_=>I) (.inl ⟨rfl,rfl⟩) (λb E=>absurd rfl E) (λb o E=>by cases E) (au _)).push (A:=own pm 140 5 (tZ [])) (H:=λ_=>I) (.inl ⟨rfl,rfl⟩) (λb E=>absurd rfl E) (λb o E=>by cases E) (au _)).push (A:=own pm 140 5 []) (H:=λ_=>I) (.inl ⟨rfl,rfl⟩) (λb E=>absurd rfl E) (λb o E=>by cases E) (au _));refine h.new λD F4 h=> ?_;generalize hw:(⟨g,cs,nn,tk,ss,ps,lv,f⟩:Spw)=w;have c7:wr (#[tX I 0 0,.slice I 0 0,U 0,.slice I 0 0,.slice I 0 0,.slice I 0 0,U 0,.slice I 0 0,.slice I 0 0,.string ⟨#[]⟩,tX I 0 0,.slice I 0 0,U 0,U 0]:Γ) 0 (g.arr cs nn tk ss ps lv f).toList=w.arr .empty pm pm 0 0:=by rw [<- hw];exact TR
 rw [c7] at h;have a3:GS F w.g w.cs w.n w.tk w.s w.p w.lv w.f:=by rw [<- hw];exact hs
 have b2:w.g.qa2.length<=256:=by rw [<- hw];exact o3
 have a4:wi w.g (wu c) s m:=by rw [<- hw];exact c5
 have c8:G2 b3=V (Y w.gv 39):=by rw [<- hw];exact l2 _ _ q3
 clear hw;refine gA (λN3 x v F=>A1 N3 l b3 b4 X D _ x v F) T.length (λi o W=>ZH G2 X D w T i o W) pm ⟨G2,.empty,pm,pm,[],[],[],[],au _,WdI.nil _,yA _,yA _,rfl,.nil,h⟩ ?_;rintro i o F5 N3 hi hI next;unfold A1;have d2:=hI;obtain ⟨G3,tx,wl,rl,ws,vs,rv,is,l3,J,g2,e8,a2,hr,h⟩:=hI;have a7:=aa K l3;refine ⟨n,ld (h.le _ _ (l3 _ _ q4)) rfl,λO=> ?_,λe5=> ?_⟩
 ·have O:i<T.length:=by omega
  have hx:T[i]? =V T[i]:=N5 O;generalize T[i]=x at hx;have R:=b6 x (vO hx);have a1:=lM hx;refine ⟨n,ld (h.le _ _ (l3 _ _ q4)) rfl,?_⟩;refine t8 (hn.le a7) (by decide) (by omega) (by omega) λf9 cc x' b5 a9 hc=>⟨cc,Mem.len hc,aN h.le a9,?_⟩;rw [N4,hx] at b5;cases b5;obtain ⟨r,rfl,c9⟩:=id hc;refine h.var (Mem.st hc) (λe6 G4 F6 l4 P h=> ?_) rfl rfl;have j7:∀{W:PH} {o':Sl},ZH G2 X D w T (i+1) o' W->nG N3 l b3 b4 X D i o' (Y1 F T m) W:=λ{W o'} hI=>by unfold nG;rw [aC O];exact next _ _ O hI
  refine ⟨x.pr,ld (h.le _ _ P) rfl,λe1=> ?_,λe3=> ?_⟩
  ·refine j7 ⟨G4,tx,wl,rl,ws,vs,rv,is,aa l3 l4,?_,by omega,by omega,a2,hr.le l4,h⟩;rw [a1,Υ (by omega),yt];exact J
  ·rw [Χ (by omega)] at a1;refine ⟨r,ld (h.le _ _ P) (i:=3) rfl,?_⟩;have d3:=aa a7 l4;refine (ku ((a3.le d3).t) b2 (c9.le l4) R.rs R.rl (by omega) (by omega) h).mono ?_;rintro _ F7 ⟨rfl,G5,y,C,a0,l5,hy,e4,h⟩;have d1:(tx++y).size=tx.size+y.size:=ByteArray.size_append;have J:=J.grow y;generalize tx++y=tz at J h d1;have g1:=R.tl;refine ⟨rfl,wl,h.ld0 (i:=10) rfl,x.tx,ld (h.le _ _ (l5 _ _ P)) (i:=2) rfl,x.tk,ld (h.le _ _ (l5 _ _ P)) (i:=1) rfl,?_⟩;refine (qS h (by omega)).mono ?_;rintro _ F8 ⟨G6,c6,rfl,Q,l6,h⟩;obtain ⟨_,_,TV⟩:=TQ;have b8:=aa l5 l6;have a5:=hr.le (aa l4 b8);have f3:=Hc a5 h (i:=2) rfl;have e2:ws.length<=i:=by have h1:=J.len;have h2:(lvs (T.take i)).length<=(T.take i).length:=List.length_filterMap_le _ _;have:=List.length_take_le i T;omega
   refine ⟨c6,rfl,h.ld0 (i:=10) rfl,Mem.len Q,?_⟩;refine h.push2 TV (c:=c6) (Mem.len Q) (Mem.st Q) (by omega) λB G7 F9 l7 h _=> ?_;refine h.set0 (w':=w.arr (tz++x.tx) B C 0 0) (vr rfl) rfl λf4 h=> ?_;have f5:=(h.ownAt (i:=3) rfl).1.rd.len;refine h.push3 sG (c:= #[U (i:Int)]) rfl (by simp [ak]) (by omega) λM G8 a8 l8 h e7=> ?_;have c3:bS G8 (ws++[(tz.size,tz.size+x.tx.size)]) (vs++[c6]):=(a5.le (aa l7 l8)).append (.cons (Mem.le (aa l7 l8) Q) .nil);have L:=J.add (R.tp (by omega));rw [<- a1] at L;have d0:(tz++x.tx).size=tz.size+x.tx.size:=ByteArray.size_append;generalize tz++x.tx=tu at L h d0;have c2:=aa l3 (aa l4 (aa b8 (aa l7 l8)));have h:St G8 a8 (SB D w tu B C 0 0 [own C 140 5 a0,own B 140 5 (tZ (vs++[c6])),own M 3 1 (is++[U (i:Int)]),pt X (Y #[tX I 0 0,.slice I 0 0,U 0,U 0] 89)]):=by rw [ba,cI];exact h
   have fin:∀{W:PH} (q:ο),q.size=1->St G8 W (SB D w (tu++q) B C 0 0 [own C 140 5 a0,own B 140 5 (tZ (vs++[c6])),own M 3 1 (is++[U (i:Int)]),pt X (Y #[tX I 0 0,.slice I 0 0,U 0,U 0] 89)])->nG N3 l b3 b4 X D i M (Y1 F T m) W:=λ{W} q hq h=>by
    refine j7 ⟨G8,tu++q,B,C,_,_,a0,_,c2,L.grow q,?_,by omega,?_,c3,h⟩
    ·rw [ByteArray.size_append];omega
    ·rw [tT,tT,a2];rfl
   have j8:∀bb:Bool,vG N3 l b3 b4 X D M i bb (Y1 F T m) a8:=λbb=>by
    unfold vG;refine ⟨λ_=>⟨tu,h.ld0 (i:=9) rfl,by show _+1<=_;omega,?_⟩,λ_=>⟨tu,h.ld0 (i:=9) rfl,by show _+1<=_;omega,?_⟩⟩
    ·exact h.set0 (w':=w.arr (tu++ByteArray.mk #[10]) B C 0 0) (vr rfl) rfl λc4 h=>fin _ rfl h
    ·exact h.set0 (w':=w.arr (tu++ByteArray.mk #[32]) B C 0 0) (vr rfl) rfl λc4 h=>fin _ rfl h
   refine ⟨λe9=> ?_,λ_=>j8 _⟩;have f1:1<=M.len:=by omega
   rw [aJ (by omega)];have a6:M.len - 1<N.length:=by omega
   obtain ⟨b0,o0,E,_⟩:=hl.cells (by omega);have b9:=(hl.le (aa K (aa c2 h.le))).cell E (i:=M.len - 1) (by rw [ub];exact a6);rw [Yn] at b9;refine ⟨_,E,by omega,by omega,((N[M.len - 1]:Nat):Int),?_,j8 _⟩;rw [show nX ((M.len:Int) - 1)=M.len - 1 by omega,xF];exact b9
 ·have:i=T.length:=by omega
  subst this;exact Aw K (a3.le K) b2 c8 q4 (hn.le K) (ht.le K) b1 a4 d4 b6 t3 t4 d2
end
variable {R:VR} {F:PH}
set_option maxHeartbeats 4000000
def Hd (R:VR) (F:PH):Prop:=R (nW nk) F
def He (i:Ω) (c h:Sl) (R:VR) (a:Int) (F:PH):Prop:=Bc (a<(c.len:Int)) (Ix c a λd=>Lr F 2 (nV d (nX a*2)) λe=>Ix h a λf=>Lr F 2 (nV f (nX a*2)) λg=>∃b,(∀F,qX prog (Op.equal 80 (nQ e) (nQ g)) F b)/\Bb ((!b)) (R (nW mD) F) (i (i64.wrap (a+1)) F)) (Hd R F)
def TS (a b:Sl) (R:VR) (F:PH):Prop:=Bc ((a.len:Int)≠(b.len:Int)) (R (nW mD) F) (Lp 0 F λN c F=>He N a b R c F)
theorem qfw {a:Sl} {b:Sl} (h:TS a b R F):ν 17 #[nI a,nI b] F R:=Rx.Λ (.qa8 (.qa8 (.J mD [] (.qa8 (.L [(5,.int .i64)] .N)) .N))) h
variable {R:VR} {F:PH}
set_option maxHeartbeats 4000000
def CV (e:Bool) (b:Sl) (f:Nat) (a:Sl) (R:VR) (F:PH):Prop:=Bb (e) (vf 17 #[nI b,nI a] F λc F=>Bb (c) (Lb F (Z f 0) λd=>Bb ((!d)) (R (nW nk) F) (R (nW (decide ((b.len:Int)<=(1:Int)))) F)) (R (nW mD) F)) (R (nW mD) F)
def CW (k:Bool) (d:ο) (j r l:Sl) (g:Nat) (c:Sl) (R:VR) (F:PH):Prop:=Li F (Z g 1) λm=>Bc (0<m) (Li F (Z g 1) λh=>Ix r (i64.wrap (h - 1)) λn=>∃e,F.cell (nV n (nX (i64.wrap (h - 1))*1))=V (U e)/\Ix j e λo=>Lr F 4 (nV o (nX e*4)) λp=>Nb F (Y (#[U 0,U 0,U 0,U 0]) 47) λi F=>aA F (Z i 0) 4 p λF=>Li F (Z i 2) λb=>Li F (Z i 3) λa=>0<=b/\0<=a/\(nX b)<=(nX a)/\(nX a)<=d.size/\Li F (Z g 2) λf=>(#[ph (d.extract (nX b) (nX a)),(U f)]:Γ).size=2/\Nb F (Y (#[ph (d.extract (nX b) (nX a)),(U f)]:Γ) 80) λs F=>Ap 48 #[nI c,nI (Sb s 1)] F λq F=>F.cell (Z g 2)=V (U f)/\F.cell (Z i 3)=V (U a)/\F.cell (Z i 2)=V (U b)/\CV k l g q R F) (CV k l g c R F)
def Ok (e:Bool) (q:Nat) (c:ο) (a:Sl) (d:Int) (j f h:Sl) (R:VR) (F:PH):Prop:=Ix a (sj (i64.wrap d) (a.len:Int)) λk=>∃g,F.cell (nV k (nX (sj (i64.wrap d) (a.len:Int))*4))=V (U g)/\Bc (g<0) (Bb (e) (R (nW (decide ((f.len:Int)=0))) F) (R (nW mD) F)) (Ls F (Z q 5) λl=>Ix a (sj (i64.wrap d) (a.len:Int)) λm=>∃b,F.cell (nV m (nX (sj (i64.wrap d) (a.len:Int))*4))=V (U b)/\Ix l b λn=>Lr F 5 (nV (nV n (nX b*13)) 8) λo=>Nb F (Y (#[nW mD,U 0,U 0,U 0,U 0]) 60) λi F=>aA F (Z i 0) 5 o λF=>Lb F (Z i 0) λp=>Bb (p) (CW e c a j f i pm R F) (CW e c a j f i h R F))
def Hf (B:Sl->Ω) (r:Bool) (A:Nat) (f:Int) (c:ο) (d:Sl) (s:Int) (g t u:Sl) (R:VR) (a:Sl) (b:Int) (F:PH):Prop:=Bc (b<(g.len:Int)) (Lr F 9 (Z A 0) λw=>Ix g b λx=>Li F (nV x (nX b*1)) λy=>ν 13 #[nQ w,rV .u64 f,ph c,nI d,(U y)] F λv F=>∃j,∃h,v=(po #[nI j,(U h)])/\Bc (h≠0) (R (nW mD) F) (Nb F (Y #[] 80) λz F=>Ap 48 #[nI (Sb z 0),nI t] F λk F=>Ap 48 #[nI k,nI a] F λl F=>vf 17 #[nI j,nI l] F λm F=>Bb ((!m)) (R (nW mD) F) (Lr F 9 (Z A 0) λn=>Ix g b λo=>Li F (nV o (nX b*1)) λp=>ν 11 #[nQ n,rV .u64 f,ph c,nI d,(U p)] F λv F=>∃i,∃e,v=(po #[nI i,(U e)])/\Bc (e≠0) (R (nW mD) F) (Ap 48 #[nI a,nI i] F λq F=>B q (i64.wrap (b+1)) F)))) (Ok r A c d s g u a R F)
def ZZ (p:Γ) (e:Int) (R:VR) (F:PH):Prop:=Nb F (Y p 28) λy F=>vf 9 #[] F λj F=>Lr F 8 (Z y 0) λq=>ν 10 #[nQ q] F λv F=>∃k,∃b,∃c,∃a,∃f,v=(po #[nQ k,rV .u64 b,ph c,nI a,nW f])/\Nb F (Y zG 39) λr F=>aA F (Z r 0) 9 k λF=>Bb ((!f)) (R (nW j) F) ((a.len:Int)≠0/\Lr F 9 (Z r 0) λs=>ν 25 #[nQ s,nI a,(U (sj (i64.wrap e) (a.len:Int)))] F λv F=>∃l,∃g,v=(po #[nI l,nW g])/\Lr F 9 (Z r 0) λt=>ν 13 #[nQ t,rV .u64 b,ph c,nI a,(U (sj (i64.wrap e) (a.len:Int)))] F λv F=>∃m,∃h,v=(po #[nI m,(U h)])/\Lr F 9 (Z r 0) λu=>ν 11 #[nQ u,rV .u64 b,ph c,nI a,(U (sj (i64.wrap e) (a.len:Int)))] F λv F=>∃n,∃i,v=(po #[nI n,(U i)])/\Bb ((!g)) (R (nW mD) F) (Bc (h≠0) (R (nW mD) F) (Bc (i≠0) (R (nW mD) F) ((∃(x:Nat->Sl->Ω) (w:Nat),x w pm 0 F/\∀w d o F,x w d o F-> Hf (V6 x w) j r b c a e l m n R d o F)))))
theorem cQ6 {a:Γ} {b:Int} (h:ZZ a b R F):ν 6 #[nQ a,rV .u16 b] F R:=Rx.Λ (.qa8 (.qa8 (.qa8 (.qa8 (.qa8 (.qa8 (.qa8 (.qa8 (.qa8 (.qa8 (.J mD [(18,.sl)] (.qa8 (.L [(18,.sl),(19,.int .i64)] .N)) (.qa8 (.qa8 (.J mD [(18,.sl)] .N (.J mD [(18,.sl)] .N .N))))))))))))))) h
def CX (z:Nat) (a:ο) (h:Sl) (i:ο) (o:Sl) (R:VR) (F:PH):Prop:=Lr F 9 (Z z 0) λA=>ν 11 #[nQ A,rV .u64 0,.string a,nI h,(U 0)] F λv F=>∃l,∃d,v=(po #[nI l,(U d)])/\Lr F 9 (Z z 0) λB=>ν 15 #[nQ B,rV .u64 0,.string a,nI h] F λv F=>∃m,∃e,v=(po #[nI m,(U e)])/\Lr F 9 (Z z 0) λC=>ν 15 #[nQ C,rV .u64 0,.string i,nI o] F λv F=>∃b,∃f,v=(po #[nI b,(U f)])/\Bc ((b.len:Int)≠1) (R (nW mD) F) (Lr F 9 (Z z 0) λD=>ν 13 #[nQ D,rV .u64 0,.string a,nI h,(U (i64.wrap ((h.len:Int) - 1)))] F λv F=>∃n,∃g,v=(po #[nI n,(U g)])/\(#[ph ⟨#[97]⟩,(U 1)]:Γ).size=2/\(#[ph ⟨#[98]⟩,(U 2)]:Γ).size=2/\Nb F (Y (wr (wr (#[ph ⟨#[]⟩,U 0,.string ⟨#[]⟩,U 0]:Γ) 0 (#[ph ⟨#[97]⟩,(U 1)]:Γ).toList) 2 (#[ph ⟨#[98]⟩,(U 2)]:Γ).toList) 80) λk F=>Bc (d=0) (vf 17 #[nI l,nI (Sb k 2)] F λE F=>Bb (E) (Bc (e=0) (Bc ((m.len:Int)=0) (Bc (f=0) (Ix b 0 λG=>Li F (nV G (nX 0*3)) λH=>Bc (H=6) (Ix b 0 λp=>∃j,F.cell (nV (nV p (nX 0*3)) 2)=V (U j)/\Bc (j=0) (Ix b 0 λq=>∃c,F.cell (nV (nV q (nX 0*3)) 1)=V (U c)/\Ix o c λr=>Li F (nV r (nX c*4)) λs=>Bc (s=3) (Bc (g=0) (0<=1/\1<=(Sb k 2).cap/\vf 17 #[nI n,nI (Sl.cut (Sb k 2) 2 0 1 (Sb k 2).cap)] F λt F=>Bb (t) (Lr F 9 (Z z 0) λu=>vf 19 #[nQ u,rV .u64 0,.string a,nI h] F λw F=>Bb (w) (Lr F 9 (Z z 0) λx=>vf 19 #[nQ x,rV .u64 0,.string i,nI o] F λy F=>R (nW (!y)) F) (R (nW mD) F)) (R (nW mD) F)) (R (nW mD) F)) (R (nW mD) F)) (R (nW mD) F)) (R (nW mD) F)) (R (nW mD) F)) (R (nW mD) F)) (R (nW mD) F)) (R (nW mD) F)) (R (nW mD) F))
def TT (b3:Nat) (w n:Γ) (K:ο->Sl->Ψ) (F:PH):Prop:=
 ν 28 #[(nQ w),(nQ n),(nI pm)] F λv F=>∃a,∃p,∃t,v=(po #[(ph a),(nQ p),(nI t)])/\aA F (Z b3 0) 4 p λF=>K a t F
def TU (b1 b3:Nat) (w:Γ) (z:Nat) (K:ο->Sl->Ψ) (F:PH):Prop:=
 Ca 29 #[(nI (Sb z 2))] F λn F=>F.row (Z b1 0) w/\TT b3 w n K F
def Hg (b1 b3:Nat) (w:Γ) (x y:Nat) (K:ο->Sl->Ψ) (F:PH):Prop:=
 Nb F (Y #[(nI (Sb x 2)),(nI (Sb y 3))] 30) λz F=>TU b1 b3 w z K F
def qfx (b1:Nat) (w:Γ) (z:Nat) (K:ο->Sl->Ψ) (F:PH):Prop:=
 ((Ca 29 #[(nI (Sb z 2))] F λn F=>F.row (Z b1 0) w/\((ν 28 #[(nQ w),(nQ n),(nI pm)] F λv F=>∃a,∃p,∃t,v=(po #[(ph a),(nQ p),(nI t)])/\Nb F (Y (#[tX I 0 0,.slice I 0 0,U 0,U 0]) 89) λb3 F=>aA F (Z b3 0) 4 p λF=>K a t F)/\(Nb F (Y (#[tX I 0 0,.slice I 0 0,U 0,U 0]) 89) λb3 F=>TT b3 w n K F)))/\(Nb F (Y (#[tX I 0 0,.slice I 0 0,U 0,U 0]) 89) λb3 F=>TU b1 b3 w z K F))
def TX (b1:Nat) (w:Γ) (x y:Nat) (K:ο->Sl->Ψ) (F:PH):Prop:=
 ((Nb F (Y #[(nI (Sb x 2)),(nI (Sb y 3))] 30) λz F=>qfx b1 w z K F)/\(Nb F (Y (#[tX I 0 0,.slice I 0 0,U 0,U 0]) 89) λb3 F=>Hg b1 b3 w x y K F))
def TY (b1:Nat) (w c:Γ) (K:ο->Sl->Ψ) (F:PH):Prop:=
 ((Nb F (Y c 9) λx F=>((Nb F (Y #[(ph ⟨#[112,111,105,110,116,101,114]⟩),(ph ⟨#[97]⟩),(ph ⟨#[98]⟩)] 9) λy F=>TX b1 w x y K F)/\(Nb F (Y (#[tX I 0 0,.slice I 0 0,U 0,U 0]) 89) λb3 F=>Nb F (Y #[(ph ⟨#[112,111,105,110,116,101,114]⟩),(ph ⟨#[97]⟩),(ph ⟨#[98]⟩)] 9) λy F=>Hg b1 b3 w x y K F)))/\(Nb F (Y #[(ph ⟨#[112,111,105,110,116,101,114]⟩),(ph ⟨#[97]⟩),(ph ⟨#[98]⟩)] 9) λy F=>((Nb F (Y c 9) λx F=>TX b1 w x y K F)/\(Nb F (Y (#[tX I 0 0,.slice I 0 0,U 0,U 0]) 89) λb3 F=>Nb F (Y c 9) λx F=>Hg b1 b3 w x y K F)))/\(Nb F (Y (#[tX I 0 0,.slice I 0 0,U 0,U 0]) 89) λb3 F=>((Nb F (Y c 9) λx F=>Nb F (Y #[(ph ⟨#[112,111,105,110,116,101,114]⟩),(ph ⟨#[97]⟩),(ph ⟨#[98]⟩)] 9) λy F=>Hg b1 b3 w x y K F)/\(Nb F (Y #[(ph ⟨#[112,111,105,110,116,101,114]⟩),(ph ⟨#[97]⟩),(ph ⟨#[98]⟩)] 9) λy F=>Nb F (Y c 9) λx F=>Hg b1 b3 w x y K F))))
def CY (d:Nat) (b:ο) (e:Sl) (R:VR) (F:PH):Prop:=Lr F 9 (Z d 0) λc=>TY d c #[ph ⟨#[40]⟩,ph ⟨#[97]⟩] (λa t F=>CX d b e a t R F) F
def Z0 (R:VR) (F:PH):Prop:=Ca 27 #[] F λb F=>Nb F (Y zG 39) λd F=>aA F (Z d 0) 9 b λF=>Lr F 9 (Z d 0) λc=>TY d c #[ph ⟨#[116,121,112,101]⟩,ph ⟨#[97]⟩] (λa t F=>CY d a t R F) F
theorem cQ9 (h:Z0 R F):ν 9 #[] F R:=Rx.Λ (.qa8 (.qa8 (.J mD [(2,.str),(4,.sl)] .N (.J mD [(5,.str),(7,.sl)] .N .N)))) h
def vb (s p:Nat) (R:VR) (F:PH):Prop:=Lr F 8 (Z s 0) λj=>ν 30 #[nQ j] F λv F=>∃h,∃a,∃b,∃c,v=(po #[nQ h,rV .u64 a,nQ b,nW c])/\Nb F (Y zG 39) λq F=>Nb F (Y (#[tX I 0 0,.slice I 0 0]) 94) λt F=>aA F (Z q 0) 9 h λF=>aA F (Z t 0) 2 b λF=>Bb ((!c)) (Lr F 9 (Z q 0) λk=>aA F (Z p 0) 9 k λF=>Lr F 9 (Z p 0) λg=>R (po #[nQ g,rV .u64 a,ph ⟨#[]⟩,nI pm,nW mD]) F) (Lr F 9 (Z q 0) λl=>Lr F 2 (Z t 0) λm=>Ls F (Z s 7) λn=>ν 28 #[nQ l,nQ m,nI n] F λv F=>∃i,∃d,∃e,v=(po #[ph i,nQ d,nI e])/\Nb F (Y (#[tX I 0 0,.slice I 0 0,U 0,U 0]) 89) λr F=>aA F (Z r 0) 4 d λF=>Lr F 9 (Z q 0) λo=>aA F (Z p 0) 9 o λF=>Lr F 9 (Z p 0) λf=>R (po #[nQ f,rV .u64 a,ph i,nI e,nW nk]) F)
def TZ (a:Γ) (R:VR) (F:PH):Prop:=Nb F (Y a 28) λc F=>Nb F (Y zG 39) λd F=>Lk F .u8 (Z c 0) λb=>Bc ((sj b 8)≠7) (pv F (Z c 0) (rV .u8 2) λF=>vb c d R F) (vb c d R F)
theorem qfy {a:Γ} (h:TZ a R F):ν 10 #[nQ a] F R:=Rx.Λ (.qa8 (.J mD [] .N .N)) h
def Hh (b c:Nat) (R:VR) (F:PH):Prop:=Lr F 2 (Z c 0) λa=>aA F (Z b 0) 2 a λF=>Rr 2 (Z b 0) R F
def qT (b:Ω) (_:Sl) (_ _:Nat) (a:Int) (_:VR) (F:PH):Prop:=b (i64.wrap (a+1)) F
def Ax (W:Ω) (h:Sl) (z1 c:Nat) (R:VR) (a:Int) (F:PH):Prop:=Bc (a<(h.len:Int)) (Ix h a λG=>Ls F (nV G (nX a*1)) λH=>Ix H 0 λz4=>Lx F (nV z4 (nX 0*1)) λz5=>Ci 61 #[ph z5] F λn F=>Ls F (Z c 0) λK=>(#[(U n),(U (-1:Int)),ph ⟨#[]⟩,tX I 0 0]:Γ).size=4/\Nb F (Y (#[(U n),(U (-1:Int)),ph ⟨#[]⟩,tX I 0 0]:Γ) 137) λX F=>Ap 92 #[nI K,nI (Sb X 1)] F λL F=>pv F (Z c 0) (nI L) λF=>Bc (n=2) (Ls F (Z c 0) λo=>Ix h a λi=>Ls F (nV i (nX a*1)) λj=>Ix j 1 λs=>Lx F (nV s (nX 1*1)) λt=>Ca 62 #[(U 1),ph ⟨#[43]⟩] F λu F=>F.cell (nV s (nX 1*1))=V (ph t)/\F.cell (nV i (nX a*1))=V (nI j)/\F.cell (Z c 0)=V (nI o)/\Ca 62 #[(U 0),ph t] F λv F=>F.cell (nV i (nX a*1))=V (nI j)/\F.cell (Z c 0)=V (nI o)/\Ca 62 #[(U 7),ph ⟨#[59]⟩] F λw F=>F.cell (nV i (nX a*1))=V (nI j)/\F.cell (Z c 0)=V (nI o)/\u.size=4/\v.size=4/\w.size=4/\Nb F (Y (wr (wr (wr (#[U 0,U 0,.string ⟨#[]⟩,tX I 0 0,U 0,U 0,.string ⟨#[]⟩,tX I 0 0,U 0,U 0,.string ⟨#[]⟩,tX I 0 0]:Γ) 0 u.toList) 4 v.toList) 8 w.toList) 137) λz3 F=>Ap 92 #[nI o,nI (Sb z3 3)] F λM F=>F.cell (nV i (nX a*1))=V (nI j)/\pv F (Z c 0) (nI M) λF=>qT W h z1 c a R F) (Bc (n=3) (Ls F (Z c 0) λk=>Ix h a λe=>Ls F (nV e (nX a*1)) λf=>Ix f 1 λN=>Lx F (nV N (nX 1*1)) λO=>Ix h a λg=>Ls F (nV g (nX a*1)) λb=>Ix b 2 λl=>Lx F (nV l (nX 2*1)) λm=>Ca 62 #[(U 0),ph O] F λx F=>F.cell (nV l (nX 2*1))=V (ph m)/\F.cell (nV g (nX a*1))=V (nI b)/\F.cell (nV e (nX a*1))=V (nI f)/\F.cell (Z c 0)=V (nI k)/\Ca 62 #[(U 2),ph ⟨#[42]⟩] F λy F=>F.cell (nV l (nX 2*1))=V (ph m)/\F.cell (nV g (nX a*1))=V (nI b)/\F.cell (nV e (nX a*1))=V (nI f)/\F.cell (Z c 0)=V (nI k)/\Ca 62 #[(U 0),ph m] F λp F=>F.cell (nV g (nX a*1))=V (nI b)/\F.cell (nV e (nX a*1))=V (nI f)/\F.cell (Z c 0)=V (nI k)/\Ca 62 #[(U 7),ph ⟨#[59]⟩] F λq F=>F.cell (nV g (nX a*1))=V (nI b)/\F.cell (nV e (nX a*1))=V (nI f)/\F.cell (Z c 0)=V (nI k)/\x.size=4/\y.size=4/\p.size=4/\q.size=4/\Nb F (Y (wr (wr (wr (wr (#[U 0,U 0,.string ⟨#[]⟩,tX I 0 0,U 0,U 0,.string ⟨#[]⟩,tX I 0 0,U 0,U 0,.string ⟨#[]⟩,tX I 0 0,U 0,U 0,.string ⟨#[]⟩,tX I 0 0]:Γ) 0 x.toList) 4 y.toList) 8 p.toList) 12 q.toList) 137) λP F=>Ap 92 #[nI k,nI (Sb P 4)] F λE F=>F.cell (nV g (nX a*1))=V (nI b)/\F.cell (nV e (nX a*1))=V (nI f)/\pv F (Z c 0) (nI E) λF=>qT W h z1 c a R F) (Ls F (Z c 0) λz=>Ca 62 #[(U 3),ph ⟨#[40]⟩] F λA F=>F.cell (Z c 0)=V (nI z)/\A.size=4/\Nb F (Y A 137) λz2 F=>Ap 92 #[nI z,nI (Sb z2 1)] F λQ F=>pv F (Z c 0) (nI Q) λF=>Ls F (Z c 0) λB=>Ix h a λr=>Ls F (nV r (nX a*1)) λd=>1<=d.len/\d.len<=d.cap/\Cs 63 #[nI (Sl.cut d 1 1 d.len d.cap)] F λS F=>F.cell (nV r (nX a*1))=V (nI d)/\F.cell (Z c 0)=V (nI B)/\Ap 92 #[nI B,nI S] F λT F=>F.cell (nV r (nX a*1))=V (nI d)/\pv F (Z c 0) (nI T) λF=>Ls F (Z c 0) λC=>Ca 62 #[(U 4),ph ⟨#[41]⟩] F λD F=>F.cell (Z c 0)=V (nI C)/\D.size=4/\Nb F (Y D 137) λaa F=>Ap 92 #[nI C,nI (Sb aa 1)] F λz0 F=>pv F (Z c 0) (nI z0) λF=>qT W h z1 c a R F))) (Hh z1 c R F)
def Hi (c:Sl) (g d:Nat) (R:VR) (F:PH):Prop:=Ls F (Z d 0) λa=>(#[(U 0),(U (-1:Int)),ph ⟨#[]⟩,tX I 0 0]:Γ).size=4/\Nb F (Y (#[(U 0),(U (-1:Int)),ph ⟨#[]⟩,tX I 0 0]:Γ) 137) λe F=>Ap 92 #[nI a,nI (Sb e 1)] F λb F=>pv F (Z d 0) (nI b) λF=>Lp 0 F λN f F=>Ax N c g d R f F
def Ay (g:Ω) (a:Sl) (h e:Nat) (R:VR) (b:Int) (F:PH):Prop:=Bc (b<(a.len:Int)) (Ls F (Z e 0) λc=>(#[(U 1),(U (-1:Int)),ph ⟨#[]⟩,tX I 0 0]:Γ).size=4/\Nb F (Y (#[(U 1),(U (-1:Int)),ph ⟨#[]⟩,tX I 0 0]:Γ) 137) λf F=>Ap 92 #[nI c,nI (Sb f 1)] F λd F=>pv F (Z e 0) (nI d) λF=>g (i64.wrap (b+1)) F) (Hi a h e R F)
def T0 (a:Sl) (R:VR) (F:PH):Prop:=Nb F (Y (#[tX I 0 0,.slice I 0 0]) 94) λd F=>Nb F (Y (#[tX I 0 0,.slice I 0 0]) 94) λc F=>aA F (Z c 0) 2 (#[tX I 0 0,.slice I 0 0]:Γ) λF=>Lp 0 F λN b F=>Ay N a d c R b F
theorem qe7 {a:Sl} (h:T0 a R F):ν 29 #[nI a] F R:=Rx.Λ (.qa8 (.qa8 (.J mD [] (.qa8 (.L [(4,.int .i64)] .N)) (.qa8 (.J mD [] (.qa8 (.L [(5,.int .i64)] (.qa8 (.J mD [] .N .N)))) .N))))) h
def T1 (a:ο) (R:VR) (F:PH):Prop:=Bb ((a.toList==(ByteArray.mk #[116,121,112,101]).toList)) (R (U 2) F) (Bb ((a.toList==(ByteArray.mk #[112,111,105,110,116,101,114]).toList)) (R (U 3) F) (R (U 5) F))
theorem qe8 {a:ο} (h:T1 a R F):ν 61 #[ph a] F R:=Rx.Λ .N h
def T2 (a:Int) (b:ο) (R:VR) (F:PH):Prop:=Nb F (Y (#[U 0,U 0,.string ⟨#[]⟩,tX I 0 0]) 137) λc F=>aA F (Z c 0) 4 (#[(U (-1:Int)),(U a),ph b,tX I 0 0]:Γ) λF=>Rr 4 (Z c 0) R F
theorem qe9 {a:Int} {b:ο} (h:T2 a b R F):ν 62 #[(U a),ph b] F R:=Rx.Λ .N h
def Hj (c:Sl) (R:VR) (F:PH):Prop:=Ca 29 #[nI c] F λb F=>∃a,b[0]? =V (nI a)/\R (nI a) F
def Az (i:Sl->Ω) (a:Sl) (R:VR) (b:Sl) (c:Int) (F:PH):Prop:=Bc (c<(a.len:Int)) (Ix a c λd=>Lx F (nV d (nX c*1)) λe=>Nb F (Y #[ph ⟨#[116,121,112,101]⟩,ph e] 9) λg F=>Nb F (Y #[nI (Sb g 2)] 30) λh F=>Ap 144 #[nI b,nI (Sb h 1)] F λf F=>i f (i64.wrap (c+1)) F) (Hj b R F)
def T3 (a:Sl) (R:VR) (F:PH):Prop:=(∃(e:Nat->Sl->Ω) (d:Nat),e d pm 0 F/\∀d b c F,e d b c F-> Az (V6 e d) a R b c F)
theorem qfa {a:Sl} (h:T3 a R F):ν 63 #[nI a] F R:=Rx.Λ (.qa8 (.qa8 (.J mD [(3,.sl)] (.qa8 (.L [(3,.sl),(4,.int .i64)] .N)) .N))) h
theorem T4 (x y:tQ) (F:PH):qX prog (Op.equal 80 (nQ (lj x)) (nQ (lj y))) F (decide (x=y)):=by
 have h:=sq (t:=80) underlying80 (by kernel_rfl) (cs:=lj x) (ds:=lj y) (λf=>if f.offset=0 then decide (x.1=y.1) else decide (x.2=y.2)) (λf g=>by
  simp only [tS,WO,or_false] at g;rcases g with rfl|rfl
  ·exact ⟨by decide,_,_,rfl,rfl,.str underlying9⟩
  ·exact ⟨by decide,_,_,rfl,rfl,.int underlying3⟩) F
 refine cast ?_ h;congr 1;cases x;cases y;rw [wm];simp
deriving instance DecidableEq for Vio
theorem Rf {F:PH} {B:(Ω)->Ω} (n:Nat) (Inv:Nat->Ψ) (h:Inv 0 F) (step:∀(k:Nat) (F:PH) (N:Ω),k<=n->Inv k F->(∀g,k<n->Inv (k+1) g->N ((k+1:Nat):Int) g)->B N (k:Int) F):Lp (0:Int) F B:=bD B n Inv h step
theorem L0 {α:Type} [Mem α] [DecidableEq α] {F:PH} {a b:Sl} {l m:List α} {n t:Nat} (M:RL F a l) (O:RL F b m) (G:0<Mem.n α) (H:Mem.n α=n) (hL:l.length<=1000000000) (J:∀(x y:α) c d,Mem.rep F x c->Mem.rep F y d->∀g,qX prog (Op.equal t (nQ c) (nQ d)) g (decide (x=y))):
  Bc ((a.len:Int)≠(b.len:Int)) ((λ(r:ξ) (g:PH)=>r=nW (decide (l=m))/\g=F) (nW mD) F) (Lp (0:Int) F λN i g=>Bc (i<(a.len:Int)) (
   Ix a i λx=>Lr g n (nV x (nX i*n)) λv=>Ix b i λy=>Lr g n (nV y (nX i*n)) λw=>∃e,(∀F,qX prog (Op.equal t (nQ v) (nQ w)) F e)/\
   Bb (!e) ((λ(r:ξ) (g:PH)=>r=nW (decide (l=m))/\g=F) (nW mD) g) (N (i64.wrap (i+(1:Int))) g)) ((λ(r:ξ) (g:PH)=>r=nW (decide (l=m))/\g=F) (nW nk) g)):=by
 subst H;have W:=M.len G;have eb:=O.len G;refine ⟨λX=>⟨?_,rfl⟩,λhe=> ?_⟩
 ·rw [η];intro e;rw [e] at W;omega
 refine Rf l.length (λk g=>g=F/\l.take k=m.take k) ⟨rfl,rfl⟩ ?_;rintro k g N hk ⟨rfl,A⟩ next;refine ⟨λB=> ?_,λQ=>⟨?_,rfl⟩⟩
 ·have B:k<l.length:=by omega
  refine t8 M G (by omega) (by omega) λx c u C D L=>⟨c,Mem.len L,D,?_⟩;refine t8 O G (by omega) (by omega) λy d z E h hd=>⟨d,Mem.len hd,h,_,J u z c d L hd,λH=>⟨?_,rfl⟩,λK=> ?_⟩
  ·rw [η];intro e;rw [N4] at C E;rw [e,E] at C;cases C;simp at H
  ·have K:u=z:=by simpa using K
   rw [N4] at C E;rw [aC B];exact next _ B ⟨rfl,by rw [bg C,bg E,A,K]⟩
 ·have P:k=l.length:=by omega
  rw [ε];rw [P,wB,zh (by omega)] at A;exact A
section
variable {F:PH} {a b:Sl}
theorem dX {l m:List tQ} (h:RL F a l) (A:RL F b m) (B:l.length<=1000000000):ν 17 #[a.v,b.v] F λr g=>r=nW (decide (l=m))/\g=F:=by refine qfw ?_;unfold TS He Hd;exact L0 h A (by decide) rfl B λx y c d w hd g=>by rw [show c=lj x from w,show d=lj y from hd];exact T4 x y g
end
section
variable {F G:PH} {x:Rw} {j:Nat} {L N:Δ}
def ye (x:Rw):Rw:=if x.qa5 % 8≠7 then {x with qa5:=2} else x
structure Hk (F:PH) (x:Rw) (w:Γ) (c:Nat) (tx:ByteArray) (t:Sl) (T:List Tmn) (tl:List ByteArray) (m:Ttr) (ws:List (Nat×Nat)):Prop where
 gv:GV F w (aS x)
 c8:c<8
 inw:Uw (aS x) (c:Int)=nk
 tr:wi (aS x) (wu (c:Int)) ⟨mD,0⟩ m
 sz:yT m<=44537
 sp:SpO T m tx ws
 rl:RL F t (vA (zI tx ws m))
 ok:∀y∈T,TmO y
 key:T.map Tmn.key=UQ m
theorem Hk.le {w:Γ} {c:Nat} {tx:ο} {t:Sl} {T:List Tmn} {r:List ο} {m:Ttr} {g:List (Nat×Nat)} (h:Hk F x w c tx t T r m g) (l:F.le G):Hk G x w c tx t T r m g:=⟨h.gv.le l,h.c8,h.inw,h.tr,h.sz,h.sp,h.rl.le l,h.ok,h.key⟩
def Rg (_:PH) (x:Rw) (r:ξ) (F':PH):Prop:=∃(w:Γ) (c:Nat),GV F' w (aS x)/\c<8/\((∃(tx:ο) (t:Sl),r=po #[nQ w,rV .u64 (c:Int),ph tx,t.v,nW mD])\/
 ∃tx t T tl m ws,r=po #[nQ w,rV .u64 (c:Int),ph tx,nI t,nW nk]/\Hk F' x w c tx t T tl m ws)
theorem CZ {b1 b2:Nat} {v:Γ} {F0:PH} (hx:InV G v x j L N) (lF:F0.le G) (h:St G F [pt b2 (Y zG 39),pt b1 (Y v 28)]):vb b1 b2 (λr H=>Rg F0 x r H/\F0.le H) F:=by
 have a3:=hx;obtain ⟨⟨v0,v1,v2,v3,v4,l,n,rfl,hr,hL,hN⟩,hj,a6,a7⟩:=hx;unfold vb;refine ⟨_,rfl,h.whole1,?_⟩;refine h.run (P:=λr M=>∃(w:Γ) (c:Nat) (A:Γ) (ok:Bool),r=po #[nQ w,rV .u64 (c:Int),nQ A,nW ok]/\GV M w (aS x)/\c<8/\Uw (aS x) (c:Int)=nk/\((ok=mD/\A= #[Sl.nil.v,Sl.nil.v])\/(ok=nk/\∃T K m,TmV M (aS x) (c:Int) ⟨mD,0⟩ A T K m))) ((Al a3).mono λr H ⟨w,c,A,ok,O,Q,h3,h4,h5,W⟩=>⟨⟨w,c,A,ok,O,Q,h3,h4,W⟩,h5⟩) λ_ G1 F1 a0 l1 h=> ?_;obtain ⟨w,c,A,ok,rfl,g,c8,hi,ht⟩:=a0;have B:A.size=2/\∀y∈A.toList,ak y:=by
  rcases ht with ⟨_,rfl⟩|⟨_,T,K,m,C⟩
  ·exact ⟨rfl,by simp [ak,nI]⟩
  ·obtain ⟨n,t,rfl,_⟩:=C.ex;exact ⟨rfl,by simp [ak,nI]⟩
 refine ⟨_,_,_,_,rfl,?_⟩;refine h.new λb7 F2 h=>h.new λb9 F3 h=> ?_;refine h.put1 (w':=w) g.size rfl g.st λF4 h=>h.put0 (w':=A) B.1 rfl B.2 λF5 h=> ?_;have D:=aa lF l1;rcases ht with ⟨rfl,_⟩|⟨rfl,T,K,m,C⟩
 ·refine ⟨λ_=> ?_,λhn=>(by cases hn)⟩;refine ⟨w,g.size,h.whole1,h.put2 (w':=w) g.size rfl g.st λF6 h=>⟨w,g.size,h.whole2,⟨w,c,g.le h.le,c8,.inl ⟨_,pm,rfl⟩⟩,aa D h.le⟩⟩
 ·refine ⟨λhn=>(by cases hn),λ_=> ?_⟩;refine ⟨w,g.size,h.whole1,A,B.1,h.whole0,n,h.ld3 (i:=7) rfl,?_⟩;refine h.run (P:=λr M=>∃(E:ο) (p:Γ) (t:Sl) (J:List (Nat×Nat)),r=po #[ph E,nQ p,t.v]/\p.size=4/\(∀x∈p.toList,ak x)/\SpO T m E J/\RL M t (vA (zI E J m))) ((oD g (mj x) C (hN.le l1)).mono λr H ⟨a,b,c,d,O,Q,h3,h4,h5,W⟩=>⟨⟨a,b,c,d,O,Q,h3,h4,h5⟩,W⟩) λ_ G2 F6 X l2 h=> ?_;obtain ⟨E,p,t,J,rfl,hp,a4,a2,a1⟩:=X;refine ⟨_,_,_,rfl,?_⟩;refine h.new λa5 F7 h=>h.put0 (w':=p) hp rfl a4 λF8 h=> ?_;refine ⟨w,g.size,h.whole2,h.put3 (w':=w) g.size rfl g.st λF9 h=>⟨w,g.size,h.whole3,⟨w,c,g.le (aa l2 h.le),c8,.inr ⟨E,t,T,K,m,J,rfl,?_⟩⟩,aa D (aa l2 h.le)⟩⟩;exact ⟨g.le (aa l2 h.le),c8,hi,C.tr,C.sz,a2,a1.le h.le,C.ok,C.key⟩
theorem AA {v:Γ} (E:InV F v x j L N):ν 10 #[nQ v] F λr D=>Rg F (ye x) r D/\F.le D:=by
 have w:=E;obtain ⟨⟨v0,v1,v2,v3,v4,l,n,rfl,⟨⟨H,C,B,e,W,J,M⟩,hb,K⟩,hL,Q⟩,O,g,A⟩:=E;simp only [Array.mk.injEq,List.cons.injEq,and_true] at e;obtain ⟨rfl,rfl,rfl,rfl,rfl⟩:=e;refine qfy ?_;unfold TZ;refine (St.start F).new λb1 F1 h=>h.new λb2 F2 h=> ?_;refine ⟨_,h.ld1 (i:=0) rfl,?_⟩;have P:sj (x.qa5:Int) 8=((x.qa5 % 8:Nat):Int):=by rw [Xv (by omega)];rfl
 dsimp only;rw [P];unfold ye;refine ⟨λX=> ?_,λhe=> ?_⟩
 ·rw [Χ (by omega)];refine h.set1 (w':= #[vB 2,vB x.n,H.v,C.v,B.v,rV .u8 (j:Int),l.v,n.v]) (vr rfl) rfl λF3 h=> ?_;exact CZ ⟨⟨_,_,_,_,_,l,n,rfl,⟨⟨H,C,B,rfl,W,J,M⟩,by show 2<256;decide,K⟩,hL,Q⟩,O,g,A⟩ (au _) h
 ·rw [Υ (by omega)];exact CZ w (au _) h
end
instance memStrs:Mem (List ο) where
 n:=1
 rep F x c:=∃s:Sl,c= #[s.v]/\RL F s x
 len h:=by obtain ⟨s,rfl,_⟩:=h;rfl
 le hl h:=by obtain ⟨s,h1,h2⟩:=h;exact ⟨s,h1,h2.le hl⟩
 st h:=by obtain ⟨s,rfl,_⟩:=h;simp [ak,nI]
abbrev Xb (p:Int):Tmn:=⟨p,-1,emp,[]⟩
abbrev Ue (k:Int) (s:ByteArray):Tmn:=⟨-1,k,s,[]⟩
abbrev Vb:ByteArray:=⟨#[116,121,112,101]⟩
abbrev zc:ByteArray:=⟨#[112,111,105,110,116,101,114]⟩
abbrev L3 (s:ByteArray):List Tmn:=[Xb 2,Ue 1 ⟨#[43]⟩,Ue 0 s,Ue 7 ⟨#[59]⟩]
abbrev Y5 (n:Nat):List Tmn:=List.replicate n (Xb 1)++[Xb 0]
def tO (names:List ο):List Tmn:=Y5 names.length++names.flatMap L3
def VY (x:List ο):List Tmn:=if x.getD 0 emp=Vb then L3 (x.getD 1 emp) else if x.getD 0 emp=zc then [Xb 3,Ue 0 (x.getD 1 emp),Ue 2 ⟨#[42]⟩,Ue 0 (x.getD 2 emp),Ue 7 ⟨#[59]⟩] else [Xb 5,Ue 3 ⟨#[40]⟩]++tO x.tail++[Ue 4 ⟨#[41]⟩]
def zO (l:List (List ο)):List Tmn:=Y5 l.length++l.flatMap VY
def L4 (x:List ο):Prop:=1<=x.length/\(x.getD 0 emp=Vb->2<=x.length)/\(x.getD 0 emp=zc->3<=x.length)
def isO (x:List ο):Prop:=x.getD 0 emp≠Vb/\x.getD 0 emp≠zc
section
variable {F G:PH} {As:List (Ψ)}
theorem AB (s:ο):ν 61 #[ph s] F λr w=>r=U (if s=Vb then 2 else if s=zc then 3 else 5)/\F.le w:=by
 refine qe8 ?_;unfold T1;rw [vq,vq];refine ⟨λh=>⟨?_,au _⟩,λh=>⟨λg=>⟨?_,au _⟩,λg=>⟨?_,au _⟩⟩⟩
 ·rw [Χ (ζ h)]
 ·rw [Υ (ι h),Χ (ζ g)]
 ·rw [Υ (ι h),Υ (ι g)]
theorem cS (k:Int) (s:ο):ν 62 #[U k,ph s] F λr g=>r=nQ #[U (-1),U k,ph s,Sl.nil.v]/\F.le g:=by refine qe9 ?_;unfold T2;refine (St.start F).new λb w h=>h.put0 (w':= #[U (-1),U k,ph s,Sl.nil.v]) rfl rfl (by simp [ak,nI]) λF2 h=>⟨_,rfl,h.whole0,rfl,h.le⟩
abbrev Vf (x:Tmn):Γ:= #[U x.pr,U x.tk,ph x.tx,Sl.nil.v]
abbrev TW (b3:Nat) (o:Sl) (l:List Tmn) (As:List (Ψ)):List (Ψ):=pt b3 (Y #[o.v,Sl.nil.v] 94)::own o 137 4 (tZ (l.map Vf))::As
theorem Rh {r:Nat} {o:Sl} {l:List Tmn} (h:St G F (TW r o l As)):o.len=l.length:=by
 have g:=(h.ownAt (i:=1) rfl).1.rd.len;have w:(tZ (l.map Vf)).length=l.length*4:=by
  clear g h;induction l with
  |nil=>rfl
  |cons x l ih=>rw [xA,cH,tT,ih];show 4+_=(l.length+1)*4;omega
 omega
abbrev TV (b3:Nat) (o o':Sl) (l:List Tmn) (As:List (Ψ)):List (Ψ):=pt b3 (Y #[o.v,Sl.nil.v] 94)::own o' 137 4 (tZ (l.map Vf))::As
theorem vc {g:Nat} {o o':Sl} {l:List Tmn} (h:St G F (TV g o o' l As)) {C:Ψ} (k:∀r,St G r (TW g o' l As)->C r):pv F (oB g 0 I) o'.v C:=
 St.set0 (w':= #[o'.v,Sl.nil.v]) h (vr rfl) rfl k
theorem vd {w:Nat} {o x:Sl} {l m:List Tmn} (h:St G F (TW w o l As)) (B:RdS F x 4 (tZ (m.map Vf))) (E:l.length+x.len<=1000000) {C:Sl->Ψ} (k:∀r o',St G r (TV w o o' (l++m) As)->C o' r):
  aG prog (Builtin.append_ #[92,92] 92 #[o.v,x.v]) F λv F=>∃A:Sl,v=nI A/\C A F:=by
 obtain ⟨_,_,T⟩:=TK;have H:=Rh h;refine h.appAt T 1 rfl B (λv g=> ?_) (by omega) λo' r h _=>k r o' ?_
 ·unfold tZ at g;obtain ⟨y,D,g⟩:=XW.1 g;obtain ⟨z,_,rfl⟩:=xv.1 D;simp only [tS,WO,or_false] at g;rcases g with rfl|rfl|rfl|rfl<;>simp [ak,nI]
 ·rw [<- ba,<- yW] at h;exact h
theorem qU {r:Nat} {o:Sl} {l:List Tmn} {y:Tmn} {C:Ψ} (H:l.length<=900000) (h:St G F (TW r o l As)) (k:∀A g o',G.le A->St A g (TW r o' (l++[y]) As)->C g):
  ∀b,F b=I->xJ (F.set b (Y (Vf y) 137)) λF=>aG prog (Builtin.append_ #[92,92] 92 #[o.v,nI (Sb b 1)]) F λv F=>∃w:Sl,v=nI w/\pv F (oB r 0 I) w.v C:=by
 refine h.newG λb B E D q _ h=> ?_;exact vd (m:=[y]) h (RdS.new (h.le _ _ q) rfl rfl (ru _)) (by show _+1<=_;omega) λg o' h=>vc h λg h=>k B g o' D h
def ZY (F:PH) (X:List (List ο)) (r:ξ) (F':PH):Prop:=(∃n,r=nQ #[nI n,Sl.nil.v]/\RdS F' n 4 (tZ ((zO X).map Vf)))/\F.le F'
def ZT (F:PH) (names:List ο) (r:ξ) (F':PH):Prop:=(∃n,r=nI n/\RdS F' n 4 (tZ ((tO names).map Vf)))/\F.le F'
theorem C0 (x:List ο):(VY x).length<=10+5*x.length:=by
 unfold VY;have hi:∀l:List ο,(l.flatMap L3).length=4*l.length:=λl=>by
  induction l with
  |nil=>rfl
  |cons y l ih=>rw [VC,tT,ih];show 4+_=4*(l.length+1);omega
 split
 ·show 4<=_;omega
 ·split
  ·show 5<=_;omega
  ·unfold tO;rw [tT,tT,tT,hi,tT,Xx,List.length_tail];show 2+(_+1+_)+1<=_;omega
theorem qV {l:Sl} {X:List (List ο)} (hl:RL F l X) (hX:∀x∈X,L4 x) (d0:∀x∈X,x.length<=100) (hn:X.length<=100)
  (f4:(∃x∈X,isO x)->∀{G:PH} {s:Sl} {E:List ο},E.length<=100->RL G s E->ν 63 #[s.v] G (ZT G E)):ν 29 #[l.v] F (ZY F X):=by
 have el:=hl.len;refine qe7 ?_;unfold T0;refine (St.start F).new λb2 F1 h=> ?_;have h:=h.push (A:=own pm 137 4 (tZ (([]:List Tmn).map Vf))) (H:=λ_=>I) (.inl ⟨rfl,rfl⟩) (λb hb=>absurd rfl hb) (λb o hb=>by cases hb) (au _);refine h.new λb3 F2 h=>h.put0 (w':= #[Sl.nil.v,Sl.nil.v]) rfl rfl (by simp [ak,nI]) λF3 h=> ?_;generalize hZ:([pt b2 (Y #[tX I 0 0,.slice I 0 0] 94)]:List (Ψ))=z0 at h;refine bD (λN i K=>Ay N l b2 b3 _ i K) X.length (λi K=>∃(w:PH) (o:Sl),F.le w/\St w K (TW b3 o (List.replicate i (Xb 1)) z0)) ⟨F,pm,au _,h⟩ ?_;rintro i F4 N hi ⟨G1,o,l1,h⟩ next;unfold Ay;refine ⟨λg=> ?_,λe3=> ?_⟩
 ·have g:i<X.length:=by omega
  refine ⟨o,h.ld0 (i:=0) rfl,rfl,qU (y:=Xb 1) (by rw [Xx];omega) h λG2 F5 o2 l2 h=> ?_⟩;rw [aC g];refine next _ g ⟨G2,o2,aa l1 l2,?_⟩;rw [List.replicate_succ'];exact h
 have:i=X.length:=by omega
 subst this;unfold Hi;refine ⟨o,h.ld0 (i:=0) rfl,rfl,qU (y:=Xb 0) (by rw [Xx];omega) h λG2 F5 o2 l2 h=> ?_⟩;refine bD (λN i K=>Ax N l b2 b3 _ i K) X.length (λi K=>∃(w:PH) (o:Sl),G1.le w/\St w K (TW b3 o (Y5 X.length++(X.take i).flatMap VY) z0)) ⟨G2,o2,l2,by rw [z6,List.flatMap_nil,yt];exact h⟩ ?_;clear h l2 next;rintro i F6 N1 hi ⟨G3,o3,l3,h⟩ next;have lG:=aa l1 l3;have e4:=hl.le lG;unfold Ax;refine ⟨λg=> ?_,λe3=> ?_⟩
 ·have g:i<X.length:=by omega
  have hx:X[i]? =V X[i]:=N5 g;have a5:=hX _ (Vc g);have f1:=d0 _ (Vc g);have c6:=Vc g;generalize X[i]=x at hx a5 f1 c6;have g7:∀l m:List Tmn,l.length<=200000->m.length<=1000->(l++m).length<=300000:=λl m h1 h2=>by rw [tT];omega
  have hT:(Y5 X.length++(X.take i).flatMap VY).length<=100000:=by
   have h1:∀l:List (List ο),(∀y∈l,y.length<=100)->(l.flatMap VY).length<=600*l.length:=λl=>by
    induction l with
    |nil=>intro _;exact yA _
    |cons y l ih=>intro hy;have a:=ih λz hz=>hy z (by simp [hz]);have b:=C0 y;have c:=hy y (by simp);rw [VC,tT,wg];omega
   have h2:=h1 (X.take i) λy hy=>d0 y (YK hy);rw [tT,tT,Xx];show X.length+1+_<=_;have:=List.length_take_le i X;omega
  have b1:(X.take (i+1)).flatMap VY=(X.take i).flatMap VY++VY x:=by rw [bg hx,XV,List.flatMap_singleton]
  have f5:=C0 x;generalize hW:Y5 X.length++(X.take i).flatMap VY=W at*;have j3:∀{w K:PH} {o':Sl},G3.le w->St w K (TW b3 o' (W++VY x) z0)->qT N1 l b2 b3 i (ZY F X) K:=λ{w K o'} l' h=>by unfold qT;rw [aC g];refine next _ g ⟨w,o',aa l3 l',?_⟩;rw [b1,<- xZ,hW];exact h
  have a4:∀{w K:PH} {C:Addr->Prop},G3.le w->w.le K->(∀a s,RL w s x->(∀D,w.le D->D.cell (a.add (nX (i:Int)*1))=V (nI s))->C a)->Ix l (i:Int) C:=λ{w K C} l' h9 k=>by refine t8 (e4.le l') (by decide) (by omega) (by omega) λa c y hy a3 hc=> ?_;rw [N4,hx] at hy;cases hy;obtain ⟨s,rfl,hs⟩:=hc;exact k a s hs λD l=>aE (aN l a3) rfl
  have a8:∀{w:PH} {s:Sl} {q:Nat} {C:Addr->Prop},RL w s x->q<x.length->(∀a,(∀D,w.le D->D.cell (a.add (nX (q:Int)*1))=V (ph (x.getD q emp)))->C a)->Ix s (q:Int) C:=λ{w s q C} hs hq k=>by have es:=hs.len;refine t8 hs (by decide) (by omega) (by omega) λa c y hy a3 hc=>k a λD l=> ?_;rw [N4] at hy;obtain rfl:c= #[ph y]:=hc;rw [QX,hy];exact aE (aN l a3) rfl
  refine a4 (au _) h.le λh6 e6 e0 g3=>⟨e6,g3 _ h.le,a8 (q:=0) e0 (by have:=a5.1;omega) λi0 e8=>⟨_,e8 _ h.le,?_⟩⟩;refine h.runv (AB _) λG4 F7 l4 h=>⟨_,rfl,o3,h.ld0 (i:=0) rfl,rfl,?_⟩;generalize B:(if x.getD 0 emp=Vb then (2:Int) else if x.getD 0 emp=zc then 3 else 5)=kk;refine qU (y:=Xb kk) (by omega) h λG5 F8 o5 l5 h=> ?_;have Q:=aa l4 l5;refine ⟨λh2=> ?_,λh2=>⟨λh3=> ?_,λh3=> ?_⟩⟩
  ·
   have ht:x.getD 0 emp=Vb:=by refine Classical.byContradiction λhn=> ?_;rw [Υ hn] at B;split at B<;>omega
   have M:VY x=L3 (x.getD 1 emp):=by unfold VY;rw [Χ ht]
   have g1:=a5.2.1 ht;refine ⟨o5,h.ld0 (i:=0) rfl,a4 Q h.le λi2 f6 d2 a6=>⟨f6,a6 _ h.le,a8 (q:=1) d2 (by omega) λh8 c8=>⟨_,c8 _ h.le,?_⟩⟩⟩;refine h.runv (cS _ _) λG6 F9 J h=>⟨_,rfl,c8 _ (aa J h.le),a6 _ (aa J h.le),h.ld0 (i:=0) rfl,?_⟩;refine h.runv (cS _ _) λG7 d1 l7 h=>⟨_,rfl,a6 _ (aa J (aa l7 h.le)),h.ld0 (i:=0) rfl,?_⟩;refine h.runv (cS _ _) λG8 b8 l8 h=>⟨_,rfl,a6 _ (aa J (aa l7 (aa l8 h.le))),h.ld0 (i:=0) rfl,rfl,rfl,rfl,?_⟩;refine h.newG λh0 G9 b6 l9 e9 _ h=> ?_;have d3:=aa J (aa l7 (aa l8 l9));refine vd (m:=[Ue 1 ⟨#[43]⟩,Ue 0 (x.getD 1 emp),Ue 7 ⟨#[59]⟩]) h (RdS.new (h.le _ _ e9) (by kernel_rfl) rfl (ru _)) (by rw [tT];show _+1+3<=_;omega) λc9 o6 h=>⟨a6 _ (aa d3 h.le),vc h λc2 h=> ?_⟩;refine j3 (aa Q d3) (o':=o6) ?_;rw [M];rw [h2,xZ] at h;exact h
  ·
   have ht:x.getD 0 emp≠Vb/\x.getD 0 emp=zc:=by
    by_cases e1:x.getD 0 emp=Vb
    ·rw [Χ e1] at B;omega
    ·refine ⟨e1,Classical.byContradiction λhn=> ?_⟩;rw [Υ e1,Υ hn] at B;omega
   have M:VY x=[Xb 3,Ue 0 (x.getD 1 emp),Ue 2 ⟨#[42]⟩,Ue 0 (x.getD 2 emp),Ue 7 ⟨#[59]⟩]:=by unfold VY;rw [Υ ht.1,Χ ht.2]
   have g1:=a5.2.2 ht.2;refine ⟨o5,h.ld0 (i:=0) rfl,a4 Q h.le λh5 e7 b7 O=>⟨e7,O _ h.le,a8 (q:=1) b7 (by omega) λi1 g4=>⟨_,g4 _ h.le,?_⟩⟩⟩;refine a4 Q h.le λg9 f9 c3 L=>⟨f9,L _ h.le,a8 (q:=2) c3 (by omega) λg8 a2=>⟨_,a2 _ h.le,?_⟩⟩;refine h.runv (cS _ _) λG6 F9 J h=>⟨_,rfl,a2 _ (aa J h.le),L _ (aa J h.le),O _ (aa J h.le),h.ld0 (i:=0) rfl,?_⟩;refine h.runv (cS _ _) λG7 d1 l7 h=>⟨_,rfl,a2 _ (aa J (aa l7 h.le)),L _ (aa J (aa l7 h.le)),O _ (aa J (aa l7 h.le)),h.ld0 (i:=0) rfl,?_⟩;have a1:=aa J l7;refine h.runv (cS _ _) λG8 b8 l8 h=>⟨_,rfl,L _ (aa a1 (aa l8 h.le)),O _ (aa a1 (aa l8 h.le)),h.ld0 (i:=0) rfl,?_⟩;have b4:=aa a1 l8;refine h.runv (cS _ _) λG9 b6 l9 h=>⟨_,rfl,L _ (aa b4 (aa l9 h.le)),O _ (aa b4 (aa l9 h.le)),h.ld0 (i:=0) rfl,rfl,rfl,rfl,rfl,?_⟩;refine h.newG λg5 Ga c9 la b9 _ h=> ?_;have b0:=aa b4 (aa l9 la);refine vd (m:=[Ue 0 (x.getD 1 emp),Ue 2 ⟨#[42]⟩,Ue 0 (x.getD 2 emp),Ue 7 ⟨#[59]⟩]) h (RdS.new (h.le _ _ b9) (by kernel_rfl) rfl (ru _)) (by rw [tT];show _+1+4<=_;omega) λc2 o6 h=>⟨L _ (aa b0 h.le),O _ (aa b0 h.le),vc h λg2 h=> ?_⟩;refine j3 (aa Q b0) (o':=o6) ?_;rw [M];rw [h3,xZ] at h;exact h
  ·
   have ht:x.getD 0 emp≠Vb/\x.getD 0 emp≠zc:=by
    by_cases e1:x.getD 0 emp=Vb
    ·rw [Χ e1] at B;omega
    ·by_cases e2:x.getD 0 emp=zc
     ·rw [Υ e1,Χ e2] at B;omega
     ·exact ⟨e1,e2⟩
   have e5:kk=5:=by rw [Υ ht.1,Υ ht.2] at B;exact B.symm
   have M:VY x=[Xb 5,Ue 3 ⟨#[40]⟩]++tO x.tail++[Ue 4 ⟨#[41]⟩]:=by unfold VY;rw [Υ ht.1,Υ ht.2]
   have h4:(tO x.tail).length<=600:=by rw [M,tT,tT] at f5;have:([Xb 5,Ue 3 ⟨#[40]⟩]:List Tmn).length=2:=rfl;omega
   subst e5;refine ⟨o5,h.ld0 (i:=0) rfl,?_⟩;refine h.runv (cS _ _) λG6 F9 J h=>⟨_,rfl,h.ld0 (i:=0) rfl,rfl,?_⟩;refine qU (y:=Ue 3 ⟨#[40]⟩) (by rw [tT];show _+1<=_;omega) h λG7 d1 o7 l7 h=> ?_;have a1:=aa J l7;have d4:=aa Q a1;refine ⟨o7,h.ld0 (i:=0) rfl,a4 d4 h.le λh7 a0 a7 a9=> ?_⟩;have es:=a7.len;have c7:=a7.cap;have g6:=a5.1;refine ⟨a0,a9 _ h.le,by omega,c7,?_⟩;have b5:RL G7 (Sl.cut a0 1 1 a0.len a0.cap) x.tail:=by have:=(RL.strs.1 a7).cut (l:=1) (r:=a0.len) (m:=a0.cap) (by omega) (ru _) c7;rw [Wy,xF] at this;refine RL.strs.2 ?_;rw [zh (by rw [W8,ub];omega),<- List.map_drop,List.drop_one] at this;exact this
   refine h.run (P:=λr w=>∃n,r=nI n/\RdS w n 4 (tZ ((tO x.tail).map Vf))) (f4 ⟨x,c6,ht⟩ (by rw [List.length_tail];omega) b5) λr G8 b8 hr l8 h=> ?_;obtain ⟨n8,rfl,c5⟩:=hr;have c4:n8.len=(tO x.tail).length:=by
    have:=c5.len;have h2:∀l:List Tmn,(tZ (l.map Vf)).length=l.length*4:=λl=>by
     induction l with
     |nil=>rfl
     |cons x l ih=>rw [xA,cH,tT,ih];show 4+_=(l.length+1)*4;omega
    rw [h2] at this;omega
   refine ⟨n8,rfl,a9 _ (aa l8 h.le),h.ld0 (i:=0) rfl,?_⟩;refine vd (m:=tO x.tail) h (c5.le h.le) (by rw [tT,tT,c4];show _+1+1+_<=_;omega) λb6 o8 h=>⟨a9 _ (aa l8 h.le),vc h λc9 h=> ?_⟩;refine ⟨o8,h.ld0 (i:=0) rfl,?_⟩;refine h.runv (cS _ _) λG9 c2 l9 h=>⟨_,rfl,h.ld0 (i:=0) rfl,rfl,?_⟩;refine qU (y:=Ue 4 ⟨#[41]⟩) (by rw [tT,tT,tT];show _+1+1+_<=_;omega) h λGa g2 oa la h=> ?_;refine j3 (aa d4 (aa l8 (aa l9 la))) (o':=oa) ?_;rw [M];simp only [xZ] at h ⊢;exact h
 ·have:i=X.length:=by omega
  subst this;rw [wB] at h;unfold Hh
  have h:=h.pick (λi=>match i with|0=>0|1=>2|2=>1|i+3=>i+3) (Bs:=pt b3 (Y #[o3.v,Sl.nil.v] 94)::pt b2 (Y #[tX I 0 0,.slice I 0 0] 94)::[own o3 137 4 (tZ ((zO X).map Vf))]) (by
   intro i j hi hj e;simp only [wg,W9] at hi hj
   match i,j,hi,hj,e with
   |0,0,_,_,_=>rfl
   |1,1,_,_,_=>rfl
   |2,2,_,_,_=>rfl
   |0,1,_,_,e=>simp at e
   |0,2,_,_,e=>simp at e
   |1,0,_,_,e=>simp at e
   |1,2,_,_,e=>simp at e
   |2,0,_,_,e=>simp at e
   |2,1,_,_,e=>simp at e) (by
   intro i hi;rw [<- hZ];simp only [wg,W9] at hi
   match i,hi with
   |0,_=>rfl
   |1,_=>rfl
   |2,_=>rfl)
  refine ⟨_,rfl,h.whole0,h.put1 (w':= #[o3.v,Sl.nil.v]) rfl rfl (by simp [ak,nI]) λF7 h=>⟨_,rfl,h.whole1,?_⟩⟩;obtain ⟨G4,l4,f3,h⟩:=h.tail.tail.pinO;exact ⟨⟨o3,rfl,f3.le h.le⟩,aa lG (aa l4 h.le)⟩
end
theorem Hl:∀(l:List Nod) (a:Int) (e:Bool) (t:Int),ml a e l t->dY a e l t=nk
 |[],a,e,t,h=>by
  unfold ml at h;unfold dY;cases e with
  |true=>rw [Χ rfl] at h ⊢;exact ε h
  |false=>rw [Υ (by decide)] at h ⊢;exact ε h
 |n::l,a,e,t,h=>by unfold ml at h;rw [rG (λr=>Classical.byContradiction λg=>h.1 (.inl ⟨r,g⟩)) λg=>h.1 (.inr g)];exact Hl l _ _ _ h.2
section
variable {W:Nat->Int×Int} {gp:Nat->Int}
theorem yf:∀(l:List Ttr),(∀k∈l,∀a,∀x∈xx (yb W gp a k),∀h fr to,x=.lf h fr to->∃j,a<=j/\j<a+yC k/\fr=(W j).1/\to=(W j).2)->∀a,∀x∈yd (Am W gp a l),∀h fr to,x=.lf h fr to->∃j,a<=j/\j<a+zJ l/\fr=(W j).1/\to=(W j).2
 |[],_,a,x,g,_,_,_,_=>by unfold Am yd at g;cases g
 |k::l,ih,a,x,g,h,fr,to,e=>by
  rw [Am,yd,vj] at g;unfold zJ;rcases g with g|g
  ·obtain ⟨j,w,A,r⟩:=ih k (by simp) a x g h fr to e;exact ⟨j,w,by omega,r⟩
  ·obtain ⟨j,w,A,r⟩:=yf l (λk B=>ih k (by simp [B])) _ x g h fr to e;exact ⟨j,by omega,by omega,r⟩
theorem L5:∀(t:Ttr) (a:Nat),∀x∈xx (yb W gp a t),∀r fr to,x=.lf r fr to->∃j,a<=j/\j<a+yC t/\fr=(W j).1/\to=(W j).2:=Ttr.ind (λr a x g B fr to e=>by
  unfold yb xx at g;rw [vu] at g;rw [g] at e;cases e;unfold yC
  exact ⟨a,ru _,by omega,rfl,rfl⟩) λw h ih a x g r fr to e=>by
 rw [d5] at g;have A:yb W gp a (.nd w h)=.nd w (gp a) (gp (a+zJ h)) (Am W gp a h):=by rw [yb]
 rw [A] at g;rcases tS.1 g with rfl|g
 ·cases e
 ·unfold yC;exact yf h ih a x g r fr to e
end
section
variable {g:Gr} {k:Nat} {c:Int} {T:List Tmn} {m:Ttr} {tx:ο} {ws:List (Nat×Nat)}
structure GdT (g:Gr) (c:Int) (tx:ByteArray) (D:Dtr):Prop where
 f:dT g D
 n:szN D<=2000000
 e:X5 g c D=0
 l:Yd tx D=nk
theorem GdT.op {D:Dtr} (h:GdT g c tx D):Wu g c tx D=0:=by unfold Wu;rw [Υ (μ h.e),Χ h.l]
theorem ve {W:Nat->Int×Int} {gp:Nat->Int} {a:Nat}:szN (yb W gp a m)=yT m:=by unfold szN;rw [IG,ub,Dy]
theorem Hm (M:OkG g) (hi:Uw g c=nk) (w:wi g (wu c) ⟨mD,g.start⟩ m) (Q:yT m<=44537) (A:SpO T m tx ws):GdT g c tx (zI tx ws m):=by
 have G:=A.wd.wds;rw [A.len] at G;have J:=qdi (W:=XF ws) (gp:=V1 ws tx.size) (n:=yC m) (Q9 _ _ _) G m _ 0 w (by omega);refine ⟨λx h=>(J x h).1,by rw [ve];omega,?_,?_⟩
 ·unfold X5;have B:Xs g c=nk:=by unfold Xs;rw [hi,Bool.and_true];exact ε (w7.2 M)
  rw [Χ B,Χ];unfold vn;rw [VT,VA];refine ⟨?_,λx h=> ?_⟩
  ·cases m with
   |lf C=>unfold wi at w;exact absurd w.1 (by simp)
   |nd O N=>unfold wi at w;obtain ⟨p,L,r,_⟩:=w;unfold zI yb Zl;dsimp only;rw [L];refine decide_eq_true ?_;have:=congrArg Sy.i r;exact this.symm
  ·obtain ⟨_,r,H⟩:=J x h;rw [VT];cases x with
   |lf C D to=>exact ⟨r,rfl⟩
   |nd O D to N=>obtain ⟨p,E,P⟩:=r;refine ⟨?_,Hl _ _ _ _ H⟩;unfold AN;dsimp only;rw [E];exact P
 ·unfold Yd;rw [VA];intro x h;cases x with
  |nd=>rfl
  |lf C D to=>obtain ⟨j,_,r,H,E⟩:=L5 m 0 _ h C D to rfl;refine ε ?_;have K:ws[j]? =V (ws[j]'(by rw [A.len];omega)):=N5 _;rw [E,Av K];have:=(A.wd.wd j _ K).2.1;show ((_:Nat):Int)<=(tx.size:Int);omega
mutual
def XT (S:Nat->ο) (a:Nat):Ttr->Ltr
 | .lf _=> .lf (S a)
 | .nd pr ks=> .nd pr (Y7 S a ks)
def Y7 (S:Nat->ο) (a:Nat):List Ttr->List Ltr
 |[]=>[]
 |n::l=>XT S a n::Y7 S (a+yC n) l
end
theorem Hn {W:Nat->Int×Int} {gp:Nat->Int} {t:Int->Int->ο} {S:Nat->ο} {n:Nat} (h:∀j,j<n->t (W j).1 (W j).2=S j):∀(l:List Ttr),(∀k∈l,∀a,a+yC k<=n->UZ t (yb W gp a k)=XT S a k)->∀a,a+zJ l<=n->io t (Am W gp a l)=Y7 S a l
 |[],_,a,_=>by unfold Am io Y7;rfl
 |k::l,ih,a,ha=>by unfold zJ at ha;rw [Am,io,Y7,ih k (by simp) a (by omega),Hn h l (λk g=>ih k (by simp [g])) _ (by omega)]
theorem T5 {W:Nat->Int×Int} {gp:Nat->Int} {t:Int->Int->ο} {S:Nat->ο} {n:Nat} (h:∀j,j<n->t (W j).1 (W j).2=S j):∀(m:Ttr) (a:Nat),a+yC m<=n->UZ t (yb W gp a m)=XT S a m:=Ttr.ind (λB a r=>by
  unfold yC at r;unfold yb UZ XT
  rw [h a (by omega)]) λw g ih a r=>by
 unfold yC at r;have A:yb W gp a (.nd w g)=.nd w (gp a) (gp (a+zJ g)) (Am W gp a g):=by rw [yb]
 rw [A,UZ,XT,Hn h g ih a r]
theorem Ho (h:SpO T m tx ws):UZ (u9 tx) (zI tx ws m)=XT (λj=>(lvs T).getD j .empty) 0 m:=by refine T5 (n:=yC m) (λj B=> ?_) m 0 (by omega);have g:ws[j]? =V (ws[j]'(by rw [h.len];omega)):=N5 _;obtain ⟨w,A,r⟩:=h.wd.wd j _ g;rw [Av g,QX,r];rfl
theorem Ri (B:OkG g) {D:Dtr} (h:GdT g c tx D):LfT (ua g) D:=by
 intro x C w A to r e;have:=(AX B h.f h.l).nd x C;subst e;obtain ⟨_,_,_,_,_,_,E,H⟩:=this;refine ⟨λhd=> ?_,λG=> ?_⟩
 ·exact E (by
   have:0<(cg g (.nd w A to r)).d.toNat:=hd
   omega)
 ·exact H (by
   have:0<(cg g (.nd w A to r)).u.toNat:=G
   omega)
end
section
variable {g h:Gr} {k:Nat}
theorem Hp (r:AC g.qa0):¬kW g:=λ⟨_,_,_,h⟩=>LW r h
end
theorem qfb:∃b z,SlT 144 30 1 b z:=⟨_,_,underlying144,aaE,aaL,rfl,by decide,by decide⟩
section
variable {F G:PH}
theorem qhv {s:Sl} {g:List ο} (hn:g.length<=100) (O:RL F s g):ν 63 #[s.v] F (ZT F g):=by
 obtain ⟨_,_,T⟩:=qfb;have es:=O.len;refine qfa ?_;unfold T3;have h:=(St.start F).nilOwn 30 1;refine gA (λN x v M=>Az N s _ x v M) g.length (λi o M=>∃(G:PH) (vs:List Γ),F.le G/\bS G ((g.take i).map λn=>[Vb,n]) vs/\o.len=i/\St G M [own o 30 1 (tZ vs)]) pm ⟨F,[],au _,.nil,rfl,h⟩ ?_;rintro i o F1 N hi ⟨G1,vs,X,J,ho,h⟩ next;unfold Az;refine ⟨λA=> ?_,λL=> ?_⟩
 ·have A:i<g.length:=by omega
  refine t8 (O.le X) (by decide) (by omega) (by omega) λa c x w H hc=> ?_;rw [N4] at w;obtain rfl:c= #[ph x]:=hc;refine ⟨x,aE (aN h.le H) rfl,?_⟩;refine h.newG λB G2 F2 E K _ h=> ?_;refine h.push0 T (c:= #[nI (Sb B 2)]) rfl (by simp [ak,nI]) (by omega) λo2 G3 F3 D h a0=> ?_;rw [aC A];refine next _ _ A ⟨G3,vs++[#[nI (Sb B 2)]],aa X (aa E D),?_,by omega,?_⟩
  ·rw [bg w,yW];exact (J.le (aa E D)).append (.cons ⟨_,rfl,RL.strs.2 (RdS.new (D _ _ K) rfl rfl (ru _))⟩ .nil)
  ·rw [ba,cI];exact h
 ·have:i=g.length:=by omega
  subst this;rw [wB] at J;unfold Hj;obtain ⟨G2,E,Q,h⟩:=h.pinO;have hl:RL G2 o (g.map λn=>[Vb,n]):=⟨vs,J.le E,Q⟩;have R:zO (g.map λn=>[Vb,n])=tO g:=by
   unfold zO tO;rw [ub];congr 1;clear J hl hn O es hi ho next L;induction g with
   |nil=>rfl
   |cons n l ih=>rw [xA,VC,VC,ih];congr 1
  refine h.run (P:=λr G'=>∃n,r=nQ #[nI n,Sl.nil.v]/\RdS G' n 4 (tZ ((zO (g.map λn=>[Vb,n])).map Vf))) (qV hl (λx w=> ?_) (λx w=> ?_) (by rw [ub];exact hn) λ⟨x,w,h1,_⟩=> ?_) λr G3 F3 W D h=> ?_
  ·obtain ⟨n,_,rfl⟩:=xv.1 w;exact ⟨by show 1<=2;decide,λ_=>ru _,λe=>absurd (show Vb=zc from e) (by decide)⟩
  ·obtain ⟨n,_,rfl⟩:=xv.1 w;show 2<=100;decide
  ·obtain ⟨n,_,rfl⟩:=xv.1 w;exact absurd rfl h1
  ·obtain ⟨n,rfl,C⟩:=W;rw [R] at C;exact ⟨_,rfl,n,rfl,⟨n,rfl,C.le h.le⟩,aa X (aa E (aa D h.le))⟩
def xD:Rw:=⟨2,0,[],[],[]⟩
theorem gb:aS xD=aQ:=by unfold aS;show famG xD (cU xD)=_;unfold famG;rw [Υ (λh=>h.1 rfl)];rfl
theorem T6 {n:Sl} {l:List Tmn} (g:∀x∈l,x.rm=[]) (h:RdS F n 4 (tZ (l.map Vf))):RL F n l:=by
 refine ⟨l.map Vf,?_,h⟩;clear h;induction l with
 |nil=>exact .nil
 |cons x l ih=>rw [xA];refine .cons ⟨pm,rfl,?_⟩ (ih λy r=>g y (by simp [r]));rw [g x (by simp)];exact RL.nil _
abbrev sA:ByteArray:=⟨#[97]⟩
abbrev sB:ByteArray:=⟨#[98]⟩
abbrev sO:ByteArray:=⟨#[40]⟩
def T7:List (List ο):=[[Vb,sA],[zc,sA,sB]]
def T8:List (List ο):=[[sO,sA],[zc,sA,sB]]
def Zo:Ttr:=.nd 2 [.lf 1,.lf 0,.lf 7]
def Y9:Ttr:=.nd 3 [.lf 0,.lf 2,.lf 0,.lf 7]
def tP:Ttr:=.nd 1 [.nd 1 [.nd 0 [],Zo],Y9]
def qW:Ttr:=.nd 1 [.nd 1 [.nd 0 [],.nd 5 [.lf 3,.nd 1 [.nd 0 [],Zo],.lf 4]],Y9]
theorem C1:(zO T7).map Tmn.key=UQ tP:=by simp only [rK,gM,jD,kS,Ttr.kids,tP,Zo,Y9];rfl
theorem vh:(zO T8).map Tmn.key=UQ qW:=by simp only [rK,gM,jD,kS,Ttr.kids,qW,Zo,Y9];rfl
theorem AD:yT tP=12:=by rw [<- eT,<- C1];rfl
theorem Hq:yT qW=17:=by rw [<- eT,<- vh];rfl
theorem Zn {g:Gr} {c:Cf} {pr:Int} {p:Pr} {ks:List Ttr} (w:VI g pr=V p) (h:(vi p.cond).ev c=nk) (r:TrL g c p.right ks):wi g c ⟨mD,p.left⟩ (.nd pr ks):=by unfold wi;exact ⟨p,w,rfl,h,r⟩
theorem XR {g:Gr} {c:Cf} {h:Int} {t:Tk} (A:0<=h) (r:g.qa2[h.toNat]? =V t) (w:(vi t.cond).ev c=nk):wi g c ⟨nk,h⟩ (.lf h):=by unfold wi;have:=(N6.1 r).1;refine ⟨rfl,A,by omega,?_⟩;unfold eI;rw [r];exact w
theorem Xc {g:Gr} {c:Cf} {s:Sy} {r:List Sy} {k:Ttr} {ks:List Ttr} (h:wi g c s k) (w:TrL g c r ks):TrL g c (s::r) (k::ks):=by unfold TrL;exact ⟨h,w⟩
theorem dK (c:Cf):(vi dy).ev c=nk:=by rw [mQ (t:=Tr.qa6 nk) trivial];rfl
theorem Ol (c:Cf):wi aQ c ⟨mD,1⟩ Zo:=
 Zn (p:={(bA ⟨#[116,121,112,101]⟩ 1 [⟨nk,1⟩,⟨nk,0⟩,⟨nk,7⟩]) with sco:=⟨mD,2,1,0,0⟩}) rfl (dK c) (Xc (XR (by decide) rfl (dK c)) (Xc (XR (by decide) rfl (dK c)) (Xc (XR (by decide) rfl (dK c)) .nil)))
theorem Om (c:Cf):wi aQ c ⟨mD,1⟩ Y9:=
 Zn (p:={(bA ⟨#[112,111,105,110,116,101,114]⟩ 1 [⟨nk,0⟩,⟨nk,2⟩,⟨nk,0⟩,⟨nk,7⟩]) with sco:=⟨mD,3,2,1,2⟩}) rfl (dK c) (Xc (XR (by decide) rfl (dK c)) (Xc (XR (by decide) rfl (dK c)) (Xc (XR (by decide) rfl (dK c)) (Xc (XR (by decide) rfl (dK c)) .nil))))
theorem yg {c:Cf} {a b:Ttr} (g:wi aQ c ⟨mD,0⟩ a) (h:wi aQ c ⟨mD,1⟩ b):wi aQ c ⟨mD,0⟩ (.nd 1 [a,b]):=
 Zn (p:=bA ⟨#[109,111,114,101]⟩ 0 [⟨mD,0⟩,⟨mD,1⟩]) rfl (dK c) (Xc g (Xc h .nil))
theorem Hr (c:Cf):wi aQ c ⟨mD,0⟩ (.nd 0 []):=Zn (p:=bA ⟨#[101,109,112,116,121]⟩ 0 []) rfl (dK c) .nil
theorem Ht (c:Cf):wi (aS xD) c ⟨mD,0⟩ tP:=by rw [gb];exact yg (yg (Hr c) (Ol c)) (Om c)
theorem Hu (c:Cf):wi (aS xD) c ⟨mD,0⟩ qW:=by rw [gb];exact yg (yg (Hr c) (Zn (p:={(bA ⟨#[105,110,110,101,114]⟩ 1 [⟨nk,3⟩,⟨mD,0⟩,⟨nk,4⟩]) with sco:=⟨nk,0,0,0,0⟩}) rfl (dK c) (Xc (XR (by decide) rfl (dK c)) (Xc (yg (Hr c) (Ol c)) (Xc (XR (by decide) rfl (dK c)) .nil))))) (Om c)
def ZP (x:Tmn):Bool:=x.rm.isEmpty && decide (x.tx.size<=1000) && if 0<=x.pr then decide (x.tx.size=0) else decide (0<x.tx.size)
theorem On {x:Tmn} (h:ZP x=nk):TmO x/\x.rm=[]:=by
 unfold ZP at h;simp only [VT,List.isEmpty_iff,δ] at h;obtain ⟨⟨w,B⟩,g⟩:=h;refine ⟨⟨by rw [w];exact yA _,by rw [w];intro r C;(cases C),B,λA=> ?_,λA=>⟨?_,w⟩⟩,w⟩
 ·rw [Υ (by omega)] at g;exact ζ g
 ·rw [Χ A] at g;have g:=ζ g;generalize x.tx=d at g;obtain ⟨d⟩:=d;have:d= #[]:=Array.eq_empty_of_size_eq_zero g;rw [this]
theorem Hv {F:PH} {n:Sl} {X:List (List ο)} {m:Ttr} (r:RdS F n 4 (tZ ((zO X).map Vf))) (h:(zO X).all ZP=nk) (A:(zO X).map Tmn.key=UQ m) (w:wi (aS xD) (wu 0) ⟨mD,0⟩ m) (B:yT m<=44537):TmV F (aS xD) 0 ⟨mD,0⟩ #[n.v,Sl.nil.v] (zO X) [] m:=by rw [VA] at h;exact ⟨⟨n,pm,rfl,T6 (λx g=>(On (h x g)).2) r,RL.nil _⟩,A,w,B,λx g=>(On (h x g)).1,yA _,λx g=>(by cases g)⟩
def ZD (l:List (List tQ×Bool)):Δ:=(List.range l.length).filter λi=>match l[i]? with
 |some x=> !x.2
 |none=>mD
section
variable {sp:Int->Spc} {tx:Int->Int->ο}
theorem C2:∀(l:List Dtr),(∀k∈l,LfT sp k)->(∀k∈l,∀seen,WW sp seen (UZ tx k)=List.zipWith (λs m=>(s,XE sp tx s m)) (xu sp tx seen k) (xx k))->∀seen,X7 sp seen (io tx l)=List.zipWith (λs m=>(s,XE sp tx s m)) (yX sp tx seen l) (yd l)
 |[],_,_,seen=>by unfold io X7 yX yd;rfl
 |n::l,hl,h,seen=>by rw [io,X7,yX,yd,List.zipWith_append (by rw [eW,cV]),h n (by simp),Bt n (hl n (by simp)),C2 l (λk g=>hl k (by simp [g])) λk g=>h k (by simp [g])]
theorem Rj:∀n:Dtr,LfT sp n->∀seen,WW sp seen (UZ tx n)=List.zipWith (λs m=>(s,XE sp tx s m)) (xu sp tx seen n) (xx n):=Dtr.ind (λB A to _ seen=>by unfold UZ WW xu xx;rfl) λC A to r ih h seen=>by have w:∀k∈r,LfT sp k:=λk g=>h.kid g;rw [UZ,WW,jh,d5,List.zipWith_cons_cons,R3 h.here,C2 r w (λk g=>ih k g (w k g))];rfl
theorem Oo {n:Dtr} (h:LfT sp n):WC sp tx n=ZD (WW sp [] (UZ tx n)):=by
 have g:=Rj (tx:=tx) n h [];unfold WC ZD;rw [g,List.length_zipWith,eW,cV,Nat.min_self];congr 1;funext i;rw [List.getElem?_zipWith'];unfold bC;cases (xu sp tx [] n)[i]? with
 |none=>rfl
 |some s=>
  cases (xx n)[i]? with
  |none=>rfl
  |some m=>rfl
end
def L6:Ltr:=XT (λj=>(lvs (zO T7)).getD j .empty) 0 tP
def T9:Ltr:=XT (λj=>(lvs (zO T8)).getD j .empty) 0 qW
theorem Rk:Yu (ua aQ) L6=[(sA,1),(sB,2)]:=by kernel_rfl
theorem Rl:((WW (ua aQ) [] L6).map Prod.fst)[11]? =V [(sA,1)]:=by kernel_rfl
theorem Rm:ZD (WW (ua aQ) [] L6)=[]:=by kernel_rfl
theorem Ro:ZD (WW (ua aQ) [] T9)=[12]:=by kernel_rfl
end
structure LwO (G:PH) (g:Gr) (k b6:Nat) (w:Γ) (c:Nat) (tx:ByteArray) (t:Sl) (D:Dtr):Prop where
 tab:Tab G
 q:G b6=V (Y w 39)
 gv:GV G w g
 gd:GdG g k
 ac:AC g.qa0
 c8:c<8
 inw:Uw g (c:Int)=nk
 rl:RL G t (vA D)
 td:GdT g (c:Int) tx D
 n:szN D<=44537
theorem LwO.le {G A:PH} {g:Gr} {k r:Nat} {w:Γ} {c:Nat} {tx:ο} {t:Sl} {D:Dtr} (h:LwO G g k r w c tx t D) (l:G.le A):LwO A g k r w c tx t D:=⟨h.tab.le l,l _ _ h.q,h.gv.le l,h.gd,h.ac,h.c8,h.inw,h.rl.le l,h.td,h.n⟩
section
variable {F G:PH} {g:Gr} {k b6 c:Nat} {w:Γ} {tx:ο} {t:Sl} {D m:Dtr} {i:Nat}
theorem LwO.len (h:LwO G g k b6 w c tx t D):t.len=szN D:=h.rl.len
theorem LwO.row (h:LwO G g k b6 w c tx t D) (l:G.le F):F.row (oB b6 0 I) w:=ai (l _ _ h.q)
theorem LwO.lft (h:LwO G g k b6 w c tx t D):LfT (ua g) D:=Ri h.gd.ok.ok h.td
theorem LwO.sct (h:LwO G g k b6 w c tx t D):ScT g tx D:=AX h.gd.ok.ok h.td.f h.td.l
theorem LwO.exA (h:LwO G g k b6 w c tx t D) (r:bC D i=V m):exA g (c:Int) tx D (i:Int)=(xG (ua g) (u9 tx) m,0):=by unfold Go.Proofs.YteilolbbgieadaaGreatDoor.exA;rw [Υ (μ h.td.op),Χ (by omega),N4,r]
theorem LwO.vsA (h:LwO G g k b6 w c tx t D) {l:List tQ} (r:(xu (ua g) (u9 tx) [] D)[i]? =V l):vsA g (c:Int) tx D (i:Int)=(l,0):=by unfold Go.Proofs.YteilolbbgieadaaGreatDoor.vsA;rw [Υ (μ h.td.op),Χ (by omega),N4,r]
theorem LwO.voA (h:LwO G g k b6 w c tx t D):voA g (c:Int) tx D=(WC (ua g) (u9 tx) D,0):=by unfold Go.Proofs.YteilolbbgieadaaGreatDoor.voA;rw [Υ (μ h.td.op)]
theorem LwO.exports (h:LwO G g k b6 w c tx t D) (E:bC D i=V m):ν 11 #[nQ w,rV .u64 (c:Int),ph tx,t.v,U (i:Int)] G λr A=>(∃s:Sl,r=po #[s.v,U 0]/\RL A s (xG (ua g) (u9 tx) m))/\G.le A:=
 have J:=h.c8
 (qhA h.tab h.gv h.gd h.td.f h.td.n h.rl (by omega) (by omega)).mono λr A ⟨⟨s,B,C⟩,H⟩=>by rw [h.exA E] at B C;exact ⟨⟨s,B,C⟩,H⟩
theorem LwO.visible (h:LwO G g k b6 w c tx t D) {l:List tQ} (E:(xu (ua g) (u9 tx) [] D)[i]? =V l):ν 13 #[nQ w,rV .u64 (c:Int),ph tx,t.v,U (i:Int)] G λr A=>(∃s:Sl,r=po #[s.v,U 0]/\RL A s l)/\G.le A:=
 have J:=h.c8
 (qhB h.tab h.gv h.gd h.td.f h.td.n h.rl (by omega) (by omega)).mono λr A ⟨⟨s,B,C⟩,H⟩=>by rw [h.vsA E] at B C;exact ⟨⟨s,B,C⟩,H⟩
theorem LwO.violations (h:LwO G g k b6 w c tx t D):ν 15 #[nQ w,rV .u64 (c:Int),ph tx,t.v] G λr A=>(∃s:Sl,r=po #[s.v,U 0]/\RL A s ((WC (ua g) (u9 tx) D).map Vio.mk))/\G.le A:=
 have H:=h.c8
 (iR h.tab h.gv h.gd h.td.f h.td.n h.rl (by omega) (by omega)).mono λr A ⟨⟨s,B,C⟩,E⟩=>by rw [h.voA] at B C;exact ⟨⟨s,B,C⟩,E⟩
theorem LwO.kids (h:LwO G g k b6 w c tx t D) (B:bC D i=V m):ν 25 #[nQ w,t.v,U (i:Int)] G λr A=>(∃s,r=po #[nI s,nW nk]/\RL A s ((gK (bQ i m.kids) m.kids.length).map Int.ofNat))/\G.le A:=FL h.tab h.gv h.gd h.td.f h.td.n h.rl B
theorem LwO.qa7 (h:LwO G g k b6 w c tx t D) (l:G.le F) (A:bC D i=V m) {K:Addr->Prop} (E:∀a,F.row (a.add (i*4)) m.root.arr->K a):∃a,t.qa5=V a/\0<=(i:Int)/\(i:Int)<(t.len:Int)/\K a:=by have J:=h.len;have hi:=d6 A;refine t8 (h.rl.le l) (by decide) (by omega) (by omega) λa C x B r H=> ?_;obtain rfl:C=x.arr:=H;rw [N4,gR A] at B;cases B;exact E a r
theorem LwO.prod (h:LwO G g k b6 w c tx t D) (A:bC D i=V m) (C:0<=m.root.pr):∃pr fr to ks p,m=.nd pr fr to ks/\VI g pr=V p/\p.sco=cg g m/\ks.length=p.right.length:=by
 have E:=(h.td.f.sub A).here;cases m with
 |lf H fr to=>exact absurd C (by show ¬(0:Int)<=-1;decide)
 |nd pr fr to ks=>
  obtain ⟨_,_,p,r,B⟩:=E;refine ⟨pr,fr,to,ks,p,rfl,r,?_,?_⟩
  ·unfold cg;dsimp only;rw [r];rfl
  ·rw [B,ub]
end
section
variable {F:PH} {v:Γ} {x:Rw} {j:Nat} {L N:Δ}
theorem Rp {G:PH} {B c:Nat} {w:Γ} {tx:ο} {t:Sl} {T:List Tmn} {D:List ο} {m:Ttr} {r:List (Nat×Nat)} (C:Tab G) (q:G B=V (Y w 39)) (h:Hk G x w c tx t T D m r):LwO G (aS x) (aS x).qa4.length B w c tx t (zI tx r m):=by obtain ⟨A,E⟩:=iv x;have g:=h.sz;refine ⟨C,q,h.gv,⟨lL x,A.sz E,Hp (pz x)⟩,pz x,h.c8,h.inw,h.rl,Hm (mj x) h.inw (by rw [A.start];exact h.tr) g h.sp,by rw [ve];exact g⟩
end
structure SwK (F0:PH) (b1:Nat) (w:Γ) (s0:ByteArray) (As:List (Ψ)) (F:PH) (x y z:Nat) (n:Sl) (p q r s:Bool):Prop where
 ex:∃G,F0.le G/\St G F As/\(p=nk->G x=V (Y #[ph s0,.string sA] 9))/\(q=nk->G y=V (Y #[ph zc,ph sA,ph sB] 9))/\(r=nk->RL G (Sb z 2) [[s0,sA],[zc,sA,sB]])/\(s=nk->RdS G n 4 (tZ ((zO [[s0,sA],[zc,sA,sB]]).map Vf)))
 q1:F0 b1=V (Y w 39)
 hg:GV F0 w (aS xD)
section
variable {F0 F:PH} {b1:Nat} {w:Γ} {s0:ο} {As:List (Ψ)} {x y z:Nat} {n:Sl} {p q r s:Bool} {C:Nat->Ψ}
theorem SwK.row (H:SwK F0 b1 w s0 As F x y z n p q r s):F.row (Z b1 0) w:=by obtain ⟨G,l,h,_⟩:=H.ex;exact ai (h.le _ _ (l _ _ H.q1))
theorem SwK.n1 (H:SwK F0 b1 w s0 As F x y z n p q r s) (k:∀x F,SwK F0 b1 w s0 As F x y z n nk q r s->C x F):Nb F (Y #[ph s0,.string sA] 9) C:=by obtain ⟨G,l,h,L,A,J,E⟩:=H.ex;exact h.newG λb K D g B _ h=>k b D ⟨⟨K,aa l g,h,λ_=>B,λe=>g _ _ (A e),λe=>(J e).le g,λe=>(E e).le g⟩,H.q1,H.hg⟩
theorem SwK.n2 (H:SwK F0 b1 w s0 As F x y z n p q r s) (k:∀y F,SwK F0 b1 w s0 As F x y z n p nk r s->C y F):Nb F (Y #[ph zc,ph sA,ph sB] 9) C:=by obtain ⟨G,l,h,A,L,J,E⟩:=H.ex;exact h.newG λb K D g B _ h=>k b D ⟨⟨K,aa l g,h,λe=>g _ _ (A e),λ_=>B,λe=>(J e).le g,λe=>(E e).le g⟩,H.q1,H.hg⟩
theorem SwK.n3 (H:SwK F0 b1 w s0 As F x y z n nk nk r s) (k:∀z F,SwK F0 b1 w s0 As F x y z n nk nk nk s->C z F):Nb F (Y #[nI (Sb x 2),nI (Sb y 3)] 30) C:=by obtain ⟨G,l,h,A,B,L,J⟩:=H.ex;refine h.newG λb K E g D _ h=>k b E ⟨⟨K,aa l g,h,λe=>g _ _ (A e),λe=>g _ _ (B e),λ_=> ?_,λe=>(J e).le g⟩,H.q1,H.hg⟩;refine ⟨[#[nI (Sb x 2)],#[nI (Sb y 3)]],.cons ⟨_,rfl,RL.strs.2 (RdS.new (g _ _ (A rfl)) rfl rfl (ru _))⟩ (.cons ⟨_,rfl,RL.strs.2 (RdS.new (g _ _ (B rfl)) rfl rfl (ru _))⟩ .nil),RdS.new D rfl rfl (ru _)⟩
theorem SwK.n4 (H:SwK F0 b1 w s0 [] F x y z n p q r s) (k:∀b F,SwK F0 b1 w s0 [pt b (Y #[tX I 0 0,.slice I 0 0,U 0,U 0] 89)] F x y z n p q r s->C b F):Nb F (Y #[tX I 0 0,.slice I 0 0,U 0,U 0] 89) C:=by obtain ⟨G,l,h,g⟩:=H.ex;exact h.new λb A h=>k b A ⟨⟨G,l,h,g⟩,H.q1,H.hg⟩
theorem SwK.st {C:Γ->Ψ} (N:L4 [s0,sA]) (H:SwK F0 b1 w s0 As F x y z n p q nk s) (k:∀n F,SwK F0 b1 w s0 As F x y z n p q nk nk->C #[nI n,Sl.nil.v] F):Ca 29 #[nI (Sb z 2)] F C:=by
 obtain ⟨G,l,h,J,K,E,Q⟩:=H.ex;refine h.run (P:=λr D=>∃n,r=nQ #[nI n,Sl.nil.v]/\RdS D n 4 (tZ ((zO [[s0,sA],[zc,sA,sB]]).map Vf))) (qV (E rfl) (λx g=> ?_) (λx g=> ?_) (by show 2<=100;decide) λ_=>qhv) λr D L O A h=> ?_
 ·simp only [tS,WO,or_false] at g;rcases g with rfl|rfl
  ·exact N
  ·exact ⟨by decide,λ_=>by decide,λ_=>by decide⟩
 ·simp only [tS,WO,or_false] at g;rcases g with rfl|rfl
  ·show 2<=100;decide
  ·show 3<=100;decide
 ·obtain ⟨M,rfl,B⟩:=O;exact ⟨_,rfl,k M L ⟨⟨D,aa l A,h,λe=>A _ _ (J e),λe=>A _ _ (K e),λe=>(E e).le A,λ_=>B⟩,H.q1,H.hg⟩⟩
def Zs (F0:PH) (s0:ο) (m:Ttr) (tx:ο) (t:Sl) (F:PH):Prop:=∃G ws,F0.le G/\SpO (zO [[s0,sA],[zc,sA,sB]]) m tx ws/\RL G t (vA (zI tx ws m))/\St G F []
variable {m:Ttr} {K:ο->Sl->Ψ}
theorem SwK.spread (O:∀{G:PH} {n:Sl},RdS G n 4 (tZ ((zO [[s0,sA],[zc,sA,sB]]).map Vf))->TmV G (aS xD) 0 ⟨mD,0⟩ #[n.v,Sl.nil.v] (zO [[s0,sA],[zc,sA,sB]]) [] m) (H:SwK F0 b1 w s0 As F x y z n p q r nk) {C:ξ->Ψ}
  (k:∀(tx:ο) (A:Γ) (t:Sl) g G B,F0.le G->A.size=4->(∀x∈A.toList,ak x)->SpO (zO [[s0,sA],[zc,sA,sB]]) m tx g->RL G t (vA (zI tx g m))->St G B As->C (po #[ph tx,nQ A,t.v]) B):ν 28 #[nQ w,nQ #[nI n,Sl.nil.v],nI pm] F C:=by
 obtain ⟨G,l,h,h1,h2,h3,X⟩:=H.ex;refine h.run (P:=λr J=>∃(tx:ο) (p:Γ) (t:Sl) (g:List (Nat×Nat)),r=po #[ph tx,nQ p,t.v]/\p.size=4/\(∀x∈p.toList,ak x)/\SpO (zO [[s0,sA],[zc,sA,sB]]) m tx g/\RL J t (vA (zI tx g m))) ((oD (N:=[]) (H.hg.le l) (mj xD) (O (X rfl)) (RdS.nil _ _)).mono λr B ⟨a,b,c,d,R,L,E,M,D,Q⟩=>⟨⟨a,b,c,d,R,L,E,M,D⟩,Q⟩) λr J B hr W h=> ?_;obtain ⟨tx,A,t,g,rfl,L,E,M,D⟩:=hr;exact k tx A t g J B (aa l W) L E M D h
theorem SwK.sp1 {g:Nat} (B:∀{G:PH} {n:Sl},RdS G n 4 (tZ ((zO [[s0,sA],[zc,sA,sB]]).map Vf))->TmV G (aS xD) 0 ⟨mD,0⟩ #[n.v,Sl.nil.v] (zO [[s0,sA],[zc,sA,sB]]) [] m) (J:∀tx t F,Zs F0 s0 m tx t F->K tx t F) (H:SwK F0 b1 w s0 [pt g (Y #[tX I 0 0,.slice I 0 0,U 0,U 0] 89)] F x y z n p q r nk):
  ν 28 #[nQ w,nQ #[nI n,Sl.nil.v],nI pm] F λv F=>∃tx,∃p,∃t,v=po #[ph tx,nQ p,nI t]/\aA F (Z g 0) 4 p λF=>K tx t F:=
 H.spread B λtx A t D G _ l N L O E h=>⟨tx,A,t,rfl,h.put0 (w':=A) N rfl L λ_ h=>J _ _ _ ⟨G,D,l,O,E,h.tail⟩⟩
theorem SwK.sp0 (D:∀{G:PH} {n:Sl},RdS G n 4 (tZ ((zO [[s0,sA],[zc,sA,sB]]).map Vf))->TmV G (aS xD) 0 ⟨mD,0⟩ #[n.v,Sl.nil.v] (zO [[s0,sA],[zc,sA,sB]]) [] m) (L:∀tx t F,Zs F0 s0 m tx t F->K tx t F) (H:SwK F0 b1 w s0 [] F x y z n p q r nk):
  ν 28 #[nQ w,nQ #[nI n,Sl.nil.v],nI pm] F λv F=>∃tx,∃p,∃t,v=po #[ph tx,nQ p,nI t]/\Nb F (Y #[tX I 0 0,.slice I 0 0,U 0,U 0] 89) λA F=>aA F (Z A 0) 4 p λF=>K tx t F:=
 H.spread D λtx B t E G _ l N M O J h=>⟨tx,B,t,rfl,h.new λ_ _ h=>h.put0 (w':=B) N rfl M λ_ h=>L _ _ _ ⟨G,E,l,O,J,h.tail⟩⟩
theorem Hw:Uw (aS xD) ((0:Nat):Int)=nk:=by refine GR (lL xD) (Nat.pow_pos (by decide)) ?_;rw [gb];exact dK _
theorem C3 {G:PH} {t:Sl} {g:List (Nat×Nat)} {tx:ο} {T:List Tmn} (D:Tab G) (q1:G b1=V (Y w 39)) (E:GV G w (aS xD)) (J:SpO T m tx g) (H:RL G t (vA (zI tx g m))) (h:wi (aS xD) (wu 0) ⟨mD,0⟩ m) (B:yT m<=44537):LwO G (aS xD) (aS xD).qa4.length b1 w 0 tx t (zI tx g m):=by obtain ⟨A,L⟩:=iv xD;exact ⟨D,q1,E,⟨lL xD,A.sz L,Hp (pz xD)⟩,pz xD,by decide,Hw,H,Hm (mj xD) Hw (by rw [A.start];exact h) B J,by rw [ve];exact B⟩
theorem Rq {t u:Sl} {tx ty:ο} {D E:Dtr} {k:Nat} {G:PH} (H:LwO G (aS xD) k b1 w 0 tx t D) (hE:LwO G (aS xD) k b1 w 0 ty u E) (lF:F0.le G) (h:St G F []) (x1:xG (ua (aS xD)) (u9 tx) D=[(sA,1),(sB,2)]) (x2:WC (ua (aS xD)) (u9 tx) D=[]) (x3:WC (ua (aS xD)) (u9 ty) E=[12]) (x4:szN D=12) (x5:(xu (ua (aS xD)) (u9 tx) [] D)[11]? =V [(sA,1)]) (x6:∃y:Nod,(vA E)[12]? =V y/\y.pr=3):
  CX b1 tx t ty u (RT F0) F:=by
 have hv:=H.gv.size;unfold CX;refine ⟨w,hv,H.row h.le,?_⟩;refine h.run (P:=λr X=>∃s:Sl,r=po #[s.v,U 0]/\RL X s (xG (ua (aS xD)) (u9 tx) D)) (H.exports (i:=0) (eM D)) λr G1 F1 hr l1 h=> ?_;obtain ⟨sa,rfl,ha⟩:=hr;refine ⟨sa,0,rfl,w,hv,H.row (aa l1 h.le),?_⟩;refine h.run (P:=λr X=>∃s:Sl,r=po #[s.v,U 0]/\RL X s ((WC (ua (aS xD)) (u9 tx) D).map Vio.mk)) (H.le l1).violations λr G2 F2 hr l2 h=> ?_;obtain ⟨sb,rfl,hb⟩:=hr;have a0:=aa l1 l2;refine ⟨sb,0,rfl,w,hv,H.row (aa a0 h.le),?_⟩;refine h.run (P:=λr X=>∃s:Sl,r=po #[s.v,U 0]/\RL X s ((WC (ua (aS xD)) (u9 ty) E).map Vio.mk)) (hE.le a0).violations λr G3 F3 hr l3 h=> ?_;obtain ⟨sc,rfl,hc⟩:=hr;have R:=aa a0 l3;rw [x3] at hc;rw [x2] at hb;rw [x1] at ha;have ec:=hc.len;have eb:=hb.len;have et:=H.len;rw [x4] at et;have ec:sc.len=1:=ec;have eb:sb.len=0:=eb;refine ⟨sc,0,rfl,λg=>absurd (by rw [ec];rfl) g,λ_=>⟨w,hv,H.row (aa R h.le),?_⟩⟩;have b0:i64.wrap ((t.len:Int) - 1)=((11:Nat):Int):=by rw [et];decide
 rw [b0];refine h.run (P:=λr X=>∃s:Sl,r=po #[s.v,U 0]/\RL X s [(sA,(1:Int))]) ((H.le R).visible x5) λr G4 F4 hr l4 h=> ?_;obtain ⟨sv,rfl,b5⟩:=hr;have b4:=aa R l4;refine ⟨sv,0,rfl,rfl,rfl,h.newG λM G5 F5 l5 b2 _ h=> ?_⟩;have b3:=aa b4 l5;have a5:RL G5 (Sb M 2) ([(sA,1),(sB,2)]:List tQ):=RL.nams.2 (RdS.new b2 (by kernel_rfl) rfl (ru _));refine ⟨λ_=> ?_,λg=>absurd rfl g⟩;refine h.runv (v:=nW nk) ((dX (ha.le (aa l2 (aa l3 (aa l4 l5)))) a5 (by show 2<=_;decide)).mono λr F' ⟨O,Q⟩=>⟨by rw [O,ε rfl],by rw [Q];exact au _⟩) λG6 F6 l6 h=>⟨_,rfl,λ_=> ?_,λg=>(by cases g)⟩;have a4:=aa b3 l6;refine ⟨λ_=>⟨λ_=>⟨λ_=> ?_,λg=>absurd rfl g⟩,λg=>absurd (by rw [eb];rfl) g⟩,λg=>absurd rfl g⟩;have a8:=hc.le (aa l4 (aa l5 l6));have W:∀{C:Addr->Prop},(∀a,F6.row (a.add (nX (0:Int)*3)) #[U 6,U ((12:Nat):Int),U 0]->C a)->Ix sc (0:Int) C:=λ{C} k=>by refine t8 a8 (by decide) (by decide) (by omega) λa c y hy L hc=>k a ?_;cases hy;obtain rfl:c=_:=hc;exact aN h.le L
 refine W λb9 a7=>⟨6,aE a7 rfl,λ_=> ?_,λg=>absurd rfl g⟩;refine W λb8 a1=>⟨0,aM a1 (i:=2) rfl,λ_=> ?_,λg=>absurd rfl g⟩;refine W λb7 a3=>⟨_,aM a3 (i:=1) rfl,?_⟩;obtain ⟨y,hy,a9⟩:=x6;have eu:=hE.len;have N:=(N6.1 hy).1;have N:12<szN E:=N;refine t8 ((hE.rl.le a4)) (by decide) (by omega) (by omega) λb6 cc y' a6 L hc=> ?_;rw [N4,hy] at a6;cases a6;obtain rfl:cc=y.arr:=hc;refine ⟨y.pr,aE (aN h.le L) rfl,λ_=> ?_,λg=>absurd a9 g⟩;refine ⟨λ_=> ?_,λg=>absurd rfl g⟩;refine ⟨by decide,by show 1<=2;decide,?_⟩;have a2:RL G6 (Sl.cut (Sb M 2) 2 0 1 (Sb M 2).cap) ([(sA,1)]:List tQ):=by have:=(RL.nams.1 (a5.le l6)).cut (l:=0) (r:=1) (m:=(Sb M 2).cap) (yA _) (by show 1<=2;decide) (by show 1<=2;decide);rw [Wp,Vu,VV,Wy] at this;exact RL.nams.2 this
 refine h.runv (v:=nW nk) ((dX (b5.le (aa l5 l6)) a2 (by show 1<=_;decide)).mono λr F' ⟨O,Q⟩=>⟨by rw [O,ε rfl],by rw [Q];exact au _⟩) λG7 F7 l7 h=>⟨_,rfl,λ_=> ?_,λg=>(by cases g)⟩;have J:=aa a4 l7;refine ⟨w,hv,H.row (aa J h.le),?_⟩;have B:=H.le J;refine h.runv (v:=nW nk) ((kB B.tab B.gv B.gd B.td.f B.td.n B.rl (by decide) (by decide)).mono λr F' ⟨O,Q⟩=>⟨by rw [O];rw [show voA (aS xD) 0 tx D=_ from B.voA,x2];rfl,Q⟩) λG8 F8 l8 h=>⟨_,rfl,λ_=> ?_,λg=>(by cases g)⟩;refine ⟨w,hv,H.row (aa J (aa l8 h.le)),?_⟩;have A:=hE.le (aa J l8);refine h.runv (v:=nW mD) ((kB A.tab A.gv A.gd A.td.f A.td.n A.rl (by decide) (by decide)).mono λr F' ⟨O,Q⟩=>⟨by rw [O];rw [show voA (aS xD) 0 ty E=_ from A.voA,x3];rfl,Q⟩) λG9 F9 l9 h=>⟨_,rfl,rfl,aa lF (aa J (aa l8 (aa l9 h.le)))⟩
theorem Hx {G:PH} {n:Sl} (h:RdS G n 4 (tZ ((zO [[Vb,sA],[zc,sA,sB]]).map Vf))):TmV G (aS xD) 0 ⟨mD,0⟩ #[n.v,Sl.nil.v] (zO [[Vb,sA],[zc,sA,sB]]) [] tP:=Hv h (by decide) C1 (Ht _) (by rw [AD];decide)
theorem Hy {G:PH} {n:Sl} (h:RdS G n 4 (tZ ((zO [[sO,sA],[zc,sA,sB]]).map Vf))):TmV G (aS xD) 0 ⟨mD,0⟩ #[n.v,Sl.nil.v] (zO [[sO,sA],[zc,sA,sB]]) [] qW:=Hv h (by decide) vh (Hu _) (by rw [Hq];decide)
theorem qcN {G:PH} {t:Sl} {tx:ο} {L:List (Nat×Nat)} (Q:Tab G) (q1:G b1=V (Y w 39)) (D:GV G w (aS xD)) (X:F0.le G) (O:SpO (zO [[Vb,sA],[zc,sA,sB]]) tP tx L) (ht:RL G t (vA (zI tx L tP))) (h:St G F []):CY b1 tx t (RT F0) F:=by
 have W:=D.size;unfold CY;have H:SwK G b1 w sO [] F 0 0 0 pm mD mD mD mD:=⟨⟨G,au _,h,λe=>(by cases e),λe=>(by cases e),λe=>(by cases e),λe=>(by cases e)⟩,q1,D⟩;have N:∀A u F,Zs G sO qW A u F->CX b1 tx t A u (RT F0) F:=λA u F ⟨G',vs,l,B,hu,h⟩=>by
  have R:=C3 (Q.le l) (l _ _ q1) (D.le l) O (ht.le l) (Ht _) (by rw [AD];decide);have P:=C3 (Q.le l) (l _ _ q1) (D.le l) B hu (Hu _) (by rw [Hq];decide);have M:=R.lft;have e1:=P.lft;have J:UZ (u9 tx) (zI tx L tP)=L6:=Ho O;have t2:UZ (u9 A) (zI A vs qW)=T9:=Ho B;refine Rq R P (aa X l) h ?_ ?_ ?_ ?_ ?_ ?_
  ·rw [<- Bt _ M,J,gb];exact Rk
  ·rw [Oo M,J,gb];exact Rm
  ·rw [Oo e1,t2,gb];exact Ro
  ·rw [ve,AD]
  ·rw [<- R7 _ M,J,gb];exact Rl
  ·have E:=vh;have g:(UQ qW)[12]? =V (3,-1):=by rw [<- E];rfl
   rw [<- we 0] at g;rw [show zI A vs qW=yb _ _ 0 qW from rfl,IG];rw [yw] at g ⊢;obtain ⟨y,hy,E⟩:=Ze.1 g;rw [hy];refine ⟨_,rfl,?_⟩;obtain ⟨y,a⟩:=y;cases y with
   |lf tk=>exact absurd (congrArg Prod.fst E) (by show ¬(-1:Int)=3;decide)
   |nd pr ks=>unfold yb;exact congrArg Prod.fst E
 refine ⟨w,W,H.row,?_⟩;have h0:L4 [sO,sA]:=⟨by decide,λ_=>by decide,λe=>absurd (show sO=zc from e) (by decide)⟩
 repeat' first
  |exact SwK.sp0 Hy N H
  |exact SwK.sp1 Hy N H
  |refine ⟨H.row,?_⟩
  |refine And.intro ?_ ?_
  |refine H.n1 λx F H=> ?_
  |refine H.n2 λy F H=> ?_
  |refine H.n3 λz F H=> ?_
  |refine H.n4 λb F H=> ?_
  |refine H.st h0 λn F H=> ?_
theorem qhj (W:Tab F):ν 9 #[] F (RT F):=by
 refine cQ9 ?_;unfold Z0;refine (St.start F).run (P:=λr N=>∃w,r=nQ w/\GV N w aQ) (gh F) λr G1 F1 Q X h=> ?_;obtain ⟨w,rfl,g⟩:=Q;rw [<- gb] at g;refine ⟨w,rfl,?_⟩;refine h.var g.st (λb1 J F2 M q1 h=> ?_) rfl g.size;have B:=aa X M;have A:=g.le M;have D:=W.le B;have H:SwK J b1 w Vb [] F2 0 0 0 pm mD mD mD mD:=⟨⟨J,au _,h,λe=>(by cases e),λe=>(by cases e),λe=>(by cases e),λe=>(by cases e)⟩,q1,A⟩;have L:∀G t E,Zs J Vb tP G t E->CY b1 G t (RT F) E:=λG t E ⟨N,ws,l,O,R,h⟩=>qcN (D.le l) (l _ _ q1) (A.le l) (aa B l) O R h;refine ⟨w,g.size,H.row,?_⟩;have h0:L4 [Vb,sA]:=⟨by decide,λ_=>by decide,λe=>absurd (show Vb=zc from e) (by decide)⟩
 repeat' first
  |exact SwK.sp0 Hx L H
  |exact SwK.sp1 Hx L H
  |refine ⟨H.row,?_⟩
  |refine And.intro ?_ ?_
  |refine H.n1 λx F H=> ?_
  |refine H.n2 λy F H=> ?_
  |refine H.n3 λz F H=> ?_
  |refine H.n4 λb F H=> ?_
  |refine H.st h0 λn F H=> ?_
end
section
variable {F:PH} {v:Γ} {x:Rw} {j:Nat} {L N:Δ}
theorem FF {F0:PH} {K:Bool->Nat->Int->ο->Sl->Ψ} (X:Tab F) (O:InV F v x j L N) (J:F0.le F)
  (k:∀{G M:PH} {k' A c:Nat} {w:Γ} {tx:ο} {t:Sl} {m:Ttr} {Q:List (Nat×Nat)},F0.le G->LwO G (aS (ye x)) k' A w c tx t (zI tx Q m)->St G M []->K nk A (c:Int) tx t M):
  Nb F (Y v 28) λW F=>vf 9 #[] F λs F=>Lr F 8 (Z W 0) λE=>ν 10 #[nQ E] F λr F=>∃a,∃c,∃tx,∃t,∃ok,r=po #[nQ a,rV .u64 c,ph tx,nI t,nW ok]/\Nb F (Y zG 39) λA F=>aA F (Z A 0) 9 a λF=>Bb (!ok) (RT F0 (nW s) F) (K s A c tx t F):=by
 have hv:v.size=8:=by obtain ⟨_,_,_,_,_,_,_,rfl,_⟩:=O.ex;rfl
 refine (St.start F).newG λW G1 F1 l1 q2 _ h=> ?_;refine h.runv (qhj (X.le l1)) λG2 F2 R h=>⟨_,rfl,v,hv,ai (h.le _ _ (R _ _ q2)),?_⟩;have C:=aa l1 R;refine h.run (P:=λr G'=>Rg G2 (ye x) r G') (AA (O.le C)) λr G3 F3 hr l3 h=> ?_;obtain ⟨w,c,D,c8,hc⟩:=hr;have g:=aa C l3;rcases hc with ⟨tx,t,rfl⟩|⟨tx,t,T,tl,m,Q,rfl,hG⟩
 ·refine ⟨_,_,_,_,_,rfl,?_⟩;refine h.var D.st (λA G4 F4 B q6 h=> ?_) rfl D.size;exact ⟨λ_=>⟨rfl,aa J (aa g (aa B h.le))⟩,λH=>(by cases H)⟩
 ·refine ⟨_,_,_,_,_,rfl,?_⟩;refine h.var D.st (λA G4 F4 B q6 h=> ?_) rfl D.size;exact ⟨λH=>(by cases H),λ_=>k (aa J (aa g B)) (Rp (X.le (aa g B)) q6 (hG.le B)) h⟩
end
section
variable {F:PH} {v:Γ} {x:Rw} {j at_:Nat} {L N:Δ}
theorem Rs {n:Nat} (g:at_<65536) (_:0<n):sj (i64.wrap (at_:Int)) (n:Int)=((at_ % n:Nat):Int):=by rw [aJ (by omega),Xv (by omega)];rfl
end
section
variable {F:PH} {ps:Sl} {g:Gr} {pr:Int} {p:Pr}
theorem qcO (h:RL F ps g.qa0) (E:VI g pr=V p) {K:Addr->Prop} (k:∀a A B w,F.row (a.add (nX pr*13)) (p.arr A B w)->K a):Ix ps pr K:=by obtain ⟨D,L,H⟩:=bB E;have M:=h.len;refine t8 h (by decide) D (by omega) λa J q C r G=> ?_;rw [H] at C;cases C;obtain ⟨A,B,w,rfl,_⟩:=G;exact k a A B w r
theorem Rt {a:Addr} {w A r:Sl} (h:F.row a (p.arr w A r)):F.row (a.add 8) p.sco.arr:=p6 h rfl
theorem Hz (h:VI g pr=V p):ua g pr=⟨p.sco.o,p.sco.d.toNat,p.sco.k,p.sco.u.toNat,p.sco.a.toNat⟩:=by unfold ua;rw [h];rfl
theorem Rv (r:OkG g) (q:Int) (h:0<(ua g q).decl):1<=(ua g q).kind/\(ua g q).kind<=7:=by
 unfold ua at h ⊢;cases hp:VI g q with
 |none=>simp only [hp] at h;exact absurd h (by decide)
 |some x=>
  simp only [hp] at h ⊢;have hd:=(HW r (vO (bB hp).2.2)).2.1;have h:0<x.sco.d.toNat:=h;show 1<=x.sco.k/\x.sco.k<=7;rcases hd with ⟨a,_⟩|⟨_,_,_,a,b⟩
  ·omega
  ·exact ⟨a,b⟩
end
section
variable {G F:PH} {g:Gr} {k b6 c:Nat} {w:Γ} {tx:ο} {t:Sl} {D m:Dtr} {i:Nat}
theorem LwO.seen (h:LwO G g k b6 w c tx t D) (hi:i<szN D):∃l,(xu (ua g) (u9 tx) [] D)[i]? =V l/\l.length<=44537/\Vw (λk=>1<=k/\k<=7) l:=by
 have r:i<(xu (ua g) (u9 tx) [] D).length:=by rw [eW];exact hi
 have A:=N5 r;have E:=h.n;refine ⟨_,A,?_,?_⟩
 ·have:=HX D [] i _ A;have H:([]:List tQ).length=0:=rfl;omega
 ·exact qdm (K:=λk=>1<=k/\k<=7) (OG λq C=>Rv h.gd.ok.ok q C) D [] (λx B=>by cases B) _ (Vc r)
end
section
variable {F:PH} {v:Γ} {x:Rw} {j at_:Nat} {L N:Δ}
theorem yh {sp:Int->Spc} {tx:Int->Int->ο} {ks:List Dtr} {k:Nat} {c:Dtr} (h:ks[k]? =V c):yo sp tx (ks.take (k+1))=yo sp tx (ks.take k)++xG sp tx c:=by rw [bg h,lh];congr 1;unfold yo yo;rw [yt]
theorem yi {F0 G F:PH} {As:List (Ψ)} {p:Pr} {A:Nat} {C w:Sl} {l:List tQ} (D:F0.le G) (q:G A=V (Y p.sco.arr 60)) (B:RL G C l) (K:l.length<=100000) (E:p.sco.o=nk->l.length<=1) (h:St G F (own w 80 2 (bi l)::As)):CV nk C A w (RT F0) F:=by
 have J:=B.len;unfold CV;refine ⟨λ_=> ?_,λg=>(by cases g)⟩;refine (dX (B.le h.le) (RL.nams.2 (h.ownAt (i:=0) rfl).1.rd) (by omega)).mono ?_;rintro r H ⟨rfl,rfl⟩;rw [ε rfl];refine ⟨_,rfl,λ_=>⟨p.sco.o,ld (h.le _ _ q) (i:=0) rfl,λ_=>⟨rfl,aa D h.le⟩,λg=>⟨?_,aa D h.le⟩⟩,λg=>(by cases g)⟩;have g:p.sco.o=nk:=by simpa using g
 have:=E g;rw [ε (by omega)]
theorem qhw (hT:Tab F) (hx:InV F v x j L N) (ha:at_<65536):ν 6 #[nQ v,rV .u16 (at_:Int)] F (RT F):=by
 obtain ⟨_,_,TN⟩:=HU;refine cQ6 ?_;unfold ZZ;refine FF hT hx (au _) λ{G Q k' b6 c w tx t m0 ws} lF O h=> ?_;generalize zI tx ws m0=D at O;generalize aS (ye x)=g at O;have e4:=O.len;have j1:=O.n;have i2:=eV D;have hv:=O.gv.size;have a0:=Rs ha (n:=t.len) (by omega);have hi:at_ % t.len<szN D:=by rw [<- e4];exact VU _ (by omega)
 generalize at_ % t.len=i at hi a0;obtain ⟨m,hm⟩:=gS hi;obtain ⟨l,hl,j5,j6⟩:=O.seen hi;refine ⟨by omega,?_⟩;simp only [a0];refine ⟨w,hv,O.row h.le,?_⟩;refine h.run (P:=λr E=>∃s,r=po #[nI s,nW nk]/\RL E s ((gK (bQ i m.kids) m.kids.length).map Int.ofNat)) (O.kids hm) λr G1 F1 hr l1 h=> ?_;obtain ⟨sk,rfl,c4⟩:=hr;have c2:=O.le l1;refine ⟨sk,nk,rfl,w,hv,c2.row h.le,?_⟩;refine h.run (P:=λr E=>∃s:Sl,r=po #[s.v,U 0]/\RL E s l) (c2.visible hl) λr G2 F2 hr l2 h=> ?_;obtain ⟨sn,rfl,c3⟩:=hr;have b2:=c2.le l2;refine ⟨sn,0,rfl,w,hv,b2.row h.le,?_⟩;refine h.run (P:=λr E=>∃s:Sl,r=po #[s.v,U 0]/\RL E s (xG (ua g) (u9 tx) m)) (b2.exports hm) λr G3 F3 hr l3 h=> ?_;obtain ⟨so,rfl,b1⟩:=hr;have f6:=b2.le l3;have b4:=aa l1 (aa l2 l3);refine ⟨so,0,rfl,λW=>(by cases W),λ_=>⟨λW=>absurd rfl W,λ_=>⟨λW=>absurd rfl W,λ_=> ?_⟩⟩⟩;have e6:=c4.le (aa l2 l3);have e8:=c3.le l3;have e9:=c4.len;rw [ub,lU] at e9;have k0:=c3.len;have g8:=b1.len;have a9:m.kids.length<=44537:=by have h1:=sub_le hm;have h2:=ii m.kids;have h3:=cn m;omega
 have e1:∀k,(yo (ua g) (u9 tx) (m.kids.take k)).length<=44537:=λk=>by have h1:=sub_le hm;have h3:=cn m;have h4:=Da (sp:=ua g) (tx:=u9 tx) (m.kids.take k);have h5:=fS (m.kids.take k) (m.kids.drop k);rw [W5] at h5;omega
 have b8:∀{E Q:PH} {k:Nat} {K:Addr->Prop},G3.le E->E.le Q->k<m.kids.length->(∀a,Q.cell (a.add (nX (k:Int)*1))=V (U ((bQ i m.kids k:Nat):Int))->K a)->Ix sk (k:Int) K:=λ{E Q k K} l' g4 hk kk=>by refine t8 (e6.le l') (by decide) (by omega) (by omega) λa cc y hy a2 hc=>kk a ?_;obtain rfl:cc= #[U y]:=hc;rw [N4] at hy;unfold gK at hy;rw [yw,yw,Xz hk] at hy;obtain rfl:=yR hy;exact aE (aN g4 a2) rfl
 have h:=h.nilOwn 80 2;refine gA (λN1 s v Q=>Hf N1 nk b6 (c:Int) tx t (at_:Int) sk sn so _ s v Q) m.kids.length (λk s Q=>∃E:PH,G3.le E/\St E Q [own s 80 2 (bi (yo (ua g) (u9 tx) (m.kids.take k)))]) pm ⟨G3,au _,by rw [z6];unfold yo;exact h⟩ ?_;rintro k k4 F4 N1 hk ⟨G4,l4,h⟩ next;have B:=f6.le l4;have a8:=(h.ownAt (i:=0) rfl).1.rd.len;rw [eO] at a8;have d1:=e1 k;unfold Hf;refine ⟨λX=> ?_,λj0=> ?_⟩
 ·have X:k<m.kids.length:=by omega
  have hc:m.kids[k]? =V m.kids[k]:=N5 X;generalize m.kids[k]=J at hc;have M:=gi hm hc;obtain ⟨l',d3,g7⟩:=Ja (ua g) (u9 tx) (seen:=[]) hm hc;rw [hl] at d3;obtain rfl:=yR d3;refine ⟨w,hv,B.row h.le,b8 l4 h.le X λj7 g6=>⟨_,g6,?_⟩⟩;refine h.run (P:=λr E=>∃s:Sl,r=po #[s.v,U 0]/\RL E s (l++yo (ua g) (u9 tx) (m.kids.take k))) (B.visible g7) λr G5 F5 hr l5 h=> ?_;obtain ⟨sv,rfl,f5⟩:=hr;have a5:=B.le l5;have A:=aa l4 l5;refine ⟨sv,0,rfl,λW=>absurd rfl W,λ_=> ?_⟩;refine h.new λe2 F6 h=> ?_;have h:=h.imp (A':=own (Sb e2 0) 80 2 []) 0 rfl λH _ hH=>gP hH;refine St.app0 TN h ((RL.nams.1 (e8.le A)).le h.le) (jI _) (by show 0+sn.len<=_;omega) λc7 F7 h b7=> ?_;have i5:c7.len=sn.len:=by rw [b7];exact x9 _
  refine St.app0 TN h (h.ownAt (i:=1) rfl).1.rd (jI _) (by omega) λi3 F8 h f3=> ?_;have c9:=(h.ownAt (i:=0) rfl).1.rd;rw [zB,<- dx] at c9;refine (dX (f5.le h.le) (RL.nams.2 c9) (by rw [tT];omega)).mono ?_;rintro r F9 ⟨rfl,rfl⟩;rw [ε rfl];refine ⟨_,rfl,λW=>(by cases W),λ_=> ?_⟩;have h:=h.tail;refine ⟨w,hv,a5.row h.le,b8 A h.le X λi4 d4=>⟨_,d4,?_⟩⟩;refine h.run (P:=λr E=>∃s:Sl,r=po #[s.v,U 0]/\RL E s (xG (ua g) (u9 tx) J)) (a5.exports M) λr G6 k2 hr l6 h=> ?_;obtain ⟨sx,rfl,d2⟩:=hr;have k1:=d2.len;have g5:=e1 (k+1);rw [yh hc,tT] at g5;refine ⟨sx,0,rfl,λW=>absurd rfl W,λ_=> ?_⟩;refine St.app0 TN h ((RL.nams.1 d2).le h.le) (jI _) (by omega) λh6 j4 h _=> ?_;rw [aC X];refine next _ _ X ⟨G6,aa A l6,?_⟩;rw [yh hc,dx];exact h
 ·have:k=m.kids.length:=by omega
  subst this;rw [wB] at h d1 a8;have g2:=aa lF (aa b4 l4);unfold Ok;simp only [a0];refine B.qa7 h.le hm λh0 e0=>⟨_,aE e0 rfl,λc6=>⟨λ_=>⟨?_,aa g2 h.le⟩,λW=>(by cases W)⟩,λk3=> ?_⟩
  ·cases m with
   |lf tk fr to=>
    have:so.len=0:=by rw [g8];unfold xG;rfl
    rw [ε (by omega)]
   |nd pr fr to C=>obtain ⟨_,_,p,hp,_⟩:=(O.td.f.sub hm).here;exact absurd (bB hp).1 (Int.not_le.2 c6)
  obtain ⟨pr,fr,to,C,p,rfl,hp,g9,_⟩:=O.prod hm (by omega);obtain ⟨s1,_,_,_,_,_,s7,_⟩:=O.sct.nd _ (dn hm);rw [<- g9] at s1 s7;have k6:=B.gv;obtain ⟨cs,n,tk,s,ps,lv,f,rfl,hs⟩:=B.gv;refine ⟨ps,ld (h.le _ _ B.q) rfl,B.qa7 h.le hm λi0 e3=>⟨_,aE e3 rfl,qcO (hs.p.le h.le) hp λh7 rr nn ll a2=>⟨_,rfl,Rt a2,?_⟩⟩⟩;refine h.var (w:=p.sco.arr) (by simp [ak]) (λf1 G5 F5 l5 R h=> ?_) rfl rfl;have a5:=B.le l5;have A:=aa l4 l5;have b5:xG (ua g) (u9 tx) (.nd pr fr to C)=(if p.sco.o=nk then [] else yo (ua g) (u9 tx) C)++nU (ua g) (u9 tx) pr C:=by rw [xG,Hz hp]
  have a3:nU (ua g) (u9 tx) pr C=if 0<p.sco.d.toNat then [(Wt (u9 tx) C p.sco.d.toNat,p.sco.k)] else []:=by unfold nU;rw [Hz hp]
  have b0:(xG (ua g) (u9 tx) (.nd pr fr to C)).length<=100000:=by have:=vx (sp:=ua g) (tx:=u9 tx) (.nd pr fr to C);have:=sub_le hm;omega
  have a7:p.sco.o=nk->(xG (ua g) (u9 tx) (.nd pr fr to C)).length<=1:=λho=>by
   rw [b5,Χ ho,a3];split
   ·exact ru _
   ·exact yA _
  have j2:∀{Q:PH} {a1:Sl} {ln:List tQ},(if p.sco.o=nk then [] else yo (ua g) (u9 tx) C)=ln->St G5 Q [own a1 80 2 (bi ln)]->CW nk tx t sk so f1 a1 (RT F) Q:=λ{Q a1 ln} e h=>by
   have k5:ln.length<=44537:=by
    rw [<- e];split
    ·exact yA _
    ·exact d1
   have g1:=(h.ownAt (i:=0) rfl).1.rd.len;rw [eO] at g1;unfold CW;refine ⟨p.sco.d,ld (h.le _ _ R) (i:=1) rfl,λhd=> ?_,λhd=> ?_⟩
   ·obtain ⟨J,M,e7⟩:=s7 hd;have M:C[p.sco.d.toNat - 1]? =V J:=M;have e5:=(N6.1 M).1;have a9:C.length<=44537:=a9;have f9:i64.wrap (p.sco.d - 1)=((p.sco.d.toNat - 1:Nat):Int):=by rw [aJ (by omega)];omega
    refine ⟨p.sco.d,ld (h.le _ _ R) (i:=1) rfl,?_⟩;dsimp only;rw [f9];have b3:bC D (bQ i C (p.sco.d.toNat - 1))=V J:=gi hm M;refine b8 A h.le e5 λh9 c5=>⟨_,c5,a5.qa7 h.le b3 λi1 c8=>⟨_,rfl,c8,?_⟩⟩;refine h.var (w:=J.root.arr) (by simp [ak]) (λj8 G6 F6 l6 a4 h=> ?_) rfl rfl;have d0:=(O.td.f.sub b3).here;have j3:=O.sct.lf J (dn b3) e7;have f4:0<=J.root.fr/\J.root.fr<=J.root.to:=by
     cases J with
     |lf a b d=>exact ⟨d0.2.2.1,by have:=d0.2.2.2;show b<=d;omega⟩
     |nd=>cases e7
    have a6:=λ{Q:PH} (l':G6.le Q)=>l' _ _ (l6 _ _ R);refine ⟨J.root.fr,ld (h.le _ _ a4) (i:=2) rfl,J.root.to,ld (h.le _ _ a4) (i:=3) rfl,f4.1,by omega,by omega,by omega,p.sco.k,ld (a6 h.le) (i:=2) rfl,rfl,?_⟩;have g3:(Wt (u9 tx) C p.sco.d.toNat,p.sco.k)=((tx.extract J.root.fr.toNat J.root.to.toNat,p.sco.k):tQ):=by unfold Wt;rw [M];rfl
    refine St.push0 TN h (c:=lj (tx.extract J.root.fr.toNat J.root.to.toNat,p.sco.k)) rfl (by simp [ak]) (by omega) λh8 G7 F7 l7 h _=> ?_;refine ⟨ld (a6 (aa l7 h.le)) (i:=2) rfl,ld (h.le _ _ (l7 _ _ a4)) (i:=3) rfl,ld (h.le _ _ (l7 _ _ a4)) (i:=2) rfl,?_⟩;have b9:=aa l6 l7;refine yi (l:=xG (ua g) (u9 tx) (.nd pr fr to C)) (As:=[]) (aa lF (aa b4 (aa A b9))) (b9 _ _ R) (b1.le (aa A b9)) b0 a7 ?_;rw [b5,e,a3,Χ (by omega),g3,dx];exact h
   ·refine yi (l:=xG (ua g) (u9 tx) (.nd pr fr to C)) (As:=[]) (aa lF (aa b4 A)) R (b1.le A) b0 a7 ?_;rw [b5,e,a3,Υ (by omega),yt];exact h
  refine ⟨p.sco.o,ld (h.le _ _ R) (i:=0) rfl,λho=> ?_,λho=> ?_⟩
  ·exact j2 (ln:=[]) (by rw [Χ ho]) (h.tail.nilOwn 80 2)
  ·exact j2 (by rw [Υ (by rw [ho];decide)];rfl) h
end
end
