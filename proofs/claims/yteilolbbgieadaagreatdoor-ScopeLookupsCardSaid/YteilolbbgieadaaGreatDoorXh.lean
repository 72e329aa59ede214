/-
  ScopeLookups: what the last name says; the walk.
-/
import Derived.Test.YteilolbbgieadaaGreatDoorZi
set_option maxRecDepth 10000
open Option renaming some->V,none->I
open Go.Obj renaming cells->Y
open Bool renaming false->mz,true->mY
open Go.Value renaming agg->nL,bool->nS,int->ru,string->pe,tuple->pk,slice->tS
open Go.Addr renaming add->nR,mk->ou
open Int renaming toNat->nT,tmod->sq
open Array renaming setIfInBounds->rV
namespace Go.Proofs.YteilolbbgieadaaGreatDoor
open Go.IntKind (i64 u8 u64)
open Sl renaming v->nE,nil->pi
open Go Go.Proofs.Tryz
structure Gwc where
 g:Gr
 cs:Sl
 n:Sl
 tk:Sl
 s:Sl
 p:Sl
 lv:Sl
 f:Sl
 c:Int
 l:Sl
 L:Δ
 hi:Sl
 H:Δ
abbrev Gwc.arr (w:Gwc) (a:Nat) (o:Sl):Γ:= #[w.cs.v,w.n.v,U w.g.fam.2,w.tk.v,w.s.v,w.p.v,U w.g.start,w.lv.v,w.f.v,ru .u64 w.c,w.l.v,U (a:Int),w.hi.v,o.v]
abbrev Gwc.gv (w:Gwc):Γ:=w.g.arr w.cs w.n w.tk w.s w.p w.lv w.f
structure GwO (G:PH) (w:Gwc) (k:Nat):Prop where
 gs:GS G w.g w.cs w.n w.tk w.s w.p w.lv w.f
 ok:OkK w.g k
 fam:(uc w.g.fam).ev (wo w.c)=mY
 c0:0<=w.c
 c1:w.c<18446744073709551616
 l:RdS G w.l 1 (w.L.map vB)
 hi:RL G w.hi (Vc w.H)
 hts:Hts w.g w.c w.H
 l9:w.L.length<=1000
theorem GwO.le {G g:PH} {w:Gwc} {k:Nat} (h:GwO G w k) (l:G.le g):GwO g w k:=⟨h.gs.le l,h.ok,h.fam,h.c0,h.c1,h.l.le l,h.hi.le l,h.hts,h.l9⟩
theorem GwO.gv {G:PH} {w:Gwc} {k:Nat} (h:GwO G w k):GV G w.gv w.g:=⟨_,_,_,_,_,_,_,rfl,h.gs⟩
abbrev GB (bx:Nat) (w:Gwc) (a:Nat) (o:Sl) (As:List (Ψ)):List (Ψ):=pt bx (Y (w.arr a o) 158)::As
section
variable {F G:PH} {w:Gwc} {k bx a:Nat} {o:Sl} {As:List (Ψ)}
theorem jv {n:Int} (A:GwO G w k) (J:∀b∈w.L,b<256) (P:1<=n) (h:St G F (GB bx w a o As)):
  ν 101 #[Pp bx,U n] F λr N=>∃v B,r=U v/\0<=v/\v<n/\a<=B/\St G N (GB bx w B o As):=by
 have M:=A.l.len;rw [ub,xB] at M;have K:=A.l9;refine qcP ?_;unfold Ox;refine ⟨_,rfl,_,h.ld0 (i:=11) rfl,_,h.ld0 (i:=10) rfl,λ_=>⟨0,a,rfl,Va _,by omega,qX _,h⟩,λg=>⟨λg=>by omega,λ_=>⟨_,h.ld0 (i:=11) rfl,?_⟩⟩⟩;have g:a<w.L.length:=by omega
 refine h.set0 (w':=w.arr (a+1) o) (vx rfl) (by rw [aJ (by omega)];rfl) λR h=> ?_;refine ⟨_,h.ld0 (i:=10) rfl,_,h.ld0 (i:=11) rfl,?_⟩;have e:i64.wrap (((a+1:Nat):Int) - 1)=(a:Int):=by rw [aJ (by omega)];omega
 dsimp only;rw [e];obtain ⟨O,Q,C,_⟩:=A.l.cells (by omega);have D:=(A.l.le h.le).cell C (i:=a) (by rw [ub];omega);rw [Yl] at D;refine ⟨_,C,by omega,by omega,((w.L[a]:Nat):Int),?_,by omega,?_⟩
 ·rw [N4,xB];exact D
 ·have H:=J _ (U9 g);have E:i64.wrap ((w.L[a]:Nat):Int)=((w.L[a]:Nat):Int):=aJ (by omega);rw [E];exact ⟨_,a+1,rfl,Int.tmod_nonneg _ (by omega),Int.tmod_lt_of_pos _ (by omega),by omega,h⟩
theorem gY {x:Tk} {v:Γ} (H:Mem.rep F x v) {st:ο} (B:st.size<=100000):ν 88 #[nL v,pe st] F λr D=>(∃b,r=nS b)/\F.le D:=by obtain ⟨p,n,rfl,E,_⟩:=H;refine qgh ?_;unfold UM;refine (St.start F).newG λJ K L A q2 _ h=> ?_;have g:=h.le _ _ q2;refine ⟨_,ld g rfl,λ_=>⟨_,ld g rfl,⟨_,rfl⟩,aa A h.le⟩,λ_=>⟨_,ld g rfl,?_⟩⟩;refine (qhd (RL.nds.1 (E.le (aa A h.le))) st B).mono ?_;rintro r F2 ⟨⟨q,rfl,_⟩,C⟩;exact ⟨_,rfl,⟨_,rfl⟩,aa A (aa h.le C)⟩
theorem qhS {v:Γ} {g:Gr} {c:Int} (hg:GV F v g) (Q:OkK g k) (c0:0<=c) (c1:c<18446744073709551616) {st:ο} (X:st.size<=100000):ν 103 #[nL v,ru .u64 c,pe st] F λr E=>(∃b,r=nS b)/\F.le E:=by
 obtain ⟨o1,o2,o3,o4⟩:=dm Q.ok;obtain ⟨cs,n,t,s,p,l,f,rfl,hs⟩:=hg;have et:=hs.t.len;refine qcR ?_;unfold Oz;refine (St.start F).newG λb3 G1 F1 l1 q3 _ h=> ?_;refine bC (vP · c st b3 _) g.qa2.length (λ_ E=>∃K,G1.le K/\St K E []) ⟨G1,au _,h⟩ ?_;rintro j F2 N hj ⟨G2,R,h⟩ next;have C:=aa l1 R;have J:=h.le _ _ (R _ _ q3);unfold vP;refine ⟨t,ld J rfl,λB=> ?_,λa2=> ?_⟩
 ·have B:j<g.qa2.length:=by omega
  refine ⟨t,ld J rfl,?_⟩;refine t6 (hs.t.le C) (by decide) (by omega) (by omega) λa cc x hx M H=>⟨_,Mem.len H,aN h.le M,?_⟩;rw [N4] at hx;have a3:=Mem.len H;refine h.var (Mem.st H) (λb8 G3 F3 O q8 h=> ?_) rfl (Mem.len H);have a1:=Mem.le O H;obtain ⟨pp,nn,rfl,hp,hn⟩:=id H;have W:=aa C O;have L:=h.le _ _ q8;have A:∀{K E:PH},G3.le K->St K E []->N (i64.wrap ((j:Int)+1)) E:=λl h=>by rw [aC B];exact next _ B ⟨_,aa R (aa O l),h⟩
  refine ⟨_,ld L rfl,λ_=> ?_,λ_=>A (au _) h⟩;have ed:eG g (j:Int)=uc x.cond:=by unfold eG;rw [N4,hx]
  have td:=(Q.tok (vQ hx)).2;have sm:=(Q.tkd (j:Int)).small Q.le;have a0:DV G3 #[nn.v,U x.cond.2] (pg (eG g (j:Int))):=by rw [ed,<- td];exact DV.mk (hn.le O)
  refine ⟨#[nn.v,U x.cond.2],rfl,fX L rfl,?_⟩;refine h.runv (px a0 sm.1 sm.2 c0 c1) λG4 F4 D h=>⟨_,rfl,λ_=>⟨λ_=>⟨_,rfl,ai (h.le _ _ (D _ _ q8)),?_⟩,λ_=>A D h⟩,λ_=>A D h⟩;refine h.run (P:=λr _=>∃b,r=nS b) (gY (Mem.le D a1) X) λr G5 F5 hr l5 h=> ?_;obtain ⟨b,rfl⟩:=hr;refine ⟨_,rfl,λ_=>⟨⟨_,rfl⟩,aa W (aa D (aa l5 h.le))⟩,λ_=>A (aa D l5) h⟩
 ·exact ⟨⟨_,rfl⟩,aa C h.le⟩
abbrev Yr (l:List ByteArray):Ξ:=l.map pe
theorem lC (hw:GwO G w k) (hL:∀b∈w.L,b<256) (h:St G F (GB bx w a o As)):
  ν 74 #[Pp bx] F λr D=>∃s l g C,r=nE s/\RL g s l/\(∀x∈l,ByteArray.size x<=4)/\l.length<=3/\G.le g/\a<=C/\St g D (GB bx w C o As):=by
 refine qgg ?_;unfold UL;refine (jv hw hL (n:=12) (by decide) h).mono ?_;rintro _ F1 ⟨v,a1,rfl,v0,v1,ha,h⟩;refine ⟨_,rfl,?_⟩;have h:=(h.push (A:=own pi 9 1 (Yr [])) (H:=λ_=>I) (.inl ⟨rfl,rfl⟩) (λb hb=>absurd rfl hb) (λb o hb=>by cases hb) (au _)).swap;refine ⟨λm K z D=>∃(g:PH) (l:List ο) (C:Nat),z<=11/\m=(z - 9).toNat/\l.length+(z - 9).toNat<=2/\(∀x∈l,ByteArray.size x<=4)/\G.le g/\a<=C/\St g D (GB bx w C o (own K 9 1 (Yr l)::As)),(v - 9).toNat,⟨G,[],a1,by omega,rfl,by show 0+_<=2;omega,λx hx=>(by cases hx),au _,ha,h⟩,?_⟩;rintro _ K z F2 ⟨G2,l,a2,z1,rfl,z2,hl,R,a0,h⟩;unfold Ik;refine ⟨λhz=> ?_,λhz=> ?_⟩
 ·refine h.newG λQ W F3 O X _ h=> ?_;refine (jv (hw.le (aa R O)) hL (n:=3) (by decide) h).mono ?_;rintro _ F4 ⟨n,a3,rfl,n0,n1,a4,h⟩;have B:∃x:ο,x.size<=4/\F4.cell (nR (ou Q 0 I) (nT n*1))=V (pe x):=by
   have q:=h.le _ _ X;have e:n=0\/n=1\/n=2:=by omega
   rcases e with rfl|rfl|rfl
   ·exact ⟨_,by decide,ld q (i:=0) rfl⟩
   ·exact ⟨_,by decide,ld q (i:=1) rfl⟩
   ·exact ⟨_,by decide,ld q (i:=2) rfl⟩
  obtain ⟨x,hx,B⟩:=B;refine ⟨_,rfl,_,rfl,n0,n1,x,B,_,rfl,w.gv,rfl,h.row0 (o:=0) rfl,w.c,h.ld0 (i:=9) rfl,?_⟩;have M:=aa R O;have E:=hw.le M;have j2:∀{g D:PH} {N:Sl} {l':List ο},W.le g->l'.length+(z - 10).toNat<=2->(∀x∈l',ByteArray.size x<=4)->St g D (GB bx w a3 o (own N 9 1 (Yr l')::As))->vN (λy0 y1 F=>∃m',m'<(z - 9).toNat/\(λ(m:Nat) (K:Sl) (z:Int) (D:PH)=>∃(g:PH) (l:List ο) (C:Nat),z<=11/\m=(z - 9).toNat/\l.length+(z - 9).toNat<=2/\(∀x∈l,ByteArray.size x<=4)/\G.le g/\a<=C/\St g D (GB bx w C o (own K 9 1 (Yr l)::As))) m' y0 y1 F) (V (ou bx 0 I)) z N (λr D=>∃s l g C,r=nE s/\RL g s l/\(∀x∈l,ByteArray.size x<=4)/\l.length<=3/\G.le g/\a<=C/\St g D (GB bx w C o As)) D:=λ{g D N l'} l h1 h2 h=>by unfold vN;rw [aJ (by omega)];exact ⟨(z - 1 - 9).toNat,by omega,g,l',a3,by omega,rfl,by omega,h2,aa M l,by omega,h⟩
  refine (qhS (E.gv.le h.le) E.ok E.c0 E.c1 (by omega)).mono ?_;rintro _ F5 ⟨⟨b,rfl⟩,l5⟩;have h:=h.up l5;refine ⟨_,rfl,λ_=> ?_,λ_=>j2 (au _) (by omega) hl h⟩;refine h.push1 qc7 (c:= #[pe x]) rfl (by simp [ak]) (by have:=(h.ownAt (i:=1) rfl).1.rd.len;rw [ub] at this;omega) λN G6 F6 l6 h _=> ?_;refine j2 (l':=l++[x]) l6 (by rw [tT];show _+1+_<=2;omega) (λy J=> ?_) ?_
  ·rcases vd.1 J with J|J
   ·exact hl y J
   ·rw [vy] at J;subst J;exact hx
  ·rw [show Yr (l++[x])=Yr l++(#[pe x]:Γ).toList by unfold Yr;rw [yT];rfl];exact h
 ·unfold Ij;obtain ⟨W,O,P,h⟩:=h.swap.pinO;exact ⟨K,l,W,a2,rfl,RL.strs.2 P,hl,by omega,aa R O,a0,h⟩
end
def VH (w:Gwc) (a n:Nat):Prop:=w.L.length<=a\/40<n
noncomputable abbrev WZ (w:Gwc) (p:Nat):Nat:=hgt (WR w.g w.c) (VB w.g) w.H p
structure ChI (w:Gwc) (left p:Nat) (al:Δ) (best:Int):Prop where
 mem:∀q∈al,q<w.g.qa0.length/\VJ w.g q=left/\WZ w q<1000
 cm:∀q,q<p->VJ w.g q=left->WZ w q<1000->q∈al
 len:al.length<=p
 b0:best= -1\/∃q:Nat,best=q/\q<w.g.qa0.length/\VJ w.g q=left/\WZ w q=w.H.getD left 0
 bc:∀q,q<p->VJ w.g q=left->WZ w q=w.H.getD left 0->best≠-1
theorem ChI.init {w:Gwc} {left:Nat}:ChI w left 0 [] (-1):=⟨λq h=>(by cases h),λq h=>(by omega),qX _,.inl rfl,λq h=>(by omega)⟩
section
variable {w:Gwc} {left p:Nat} {al:Δ} {best:Int}
theorem ChI.skip (h:ChI w left p al best) (r:VJ w.g p≠left\/1000<=WZ w p) (D:w.H.getD left 0<1000):ChI w left (p+1) al best:=by
 refine ⟨h.mem,λq C A B=> ?_,Nat.le_succ_of_le h.len,h.b0,λq C A B=> ?_⟩
 ·by_cases e:q=p
  ·subst e;rcases r with r|r
   ·exact absurd A r
   ·omega
  ·exact h.cm q (by omega) A B
 ·by_cases e:q=p
  ·subst e;rcases r with r|r
   ·exact absurd A r
   ·omega
  ·exact h.bc q (by omega) A B
theorem ChI.take (h:ChI w left p al best) (C:p<w.g.qa0.length) (D:VJ w.g p=left) (E:WZ w p<1000) {r:Int} (B:(WZ w p=w.H.getD left 0/\best<0/\r=p)\/((WZ w p≠w.H.getD left 0\/¬best<0)/\r=best)):ChI w left (p+1) (al++[p]) r:=by
 refine ⟨λq A=> ?_,λq A a b=> ?_,by rw [tT];have:=h.len;show _+1<=_;omega,?_,λq A a b=> ?_⟩
 ·rcases vd.1 A with A|A
  ·exact h.mem q A
  ·rw [vy] at A;subst A;exact ⟨C,D,E⟩
 ·by_cases e:q=p
  ·subst e;simp
  ·exact vd.2 (.inl (h.cm q (by omega) a b))
 ·rcases B with ⟨a,_,rfl⟩|⟨_,rfl⟩
  ·exact .inr ⟨p,rfl,C,D,a⟩
  ·exact h.b0
 ·rcases B with ⟨_,_,rfl⟩|⟨B,rfl⟩
  ·omega
  ·by_cases e:q=p
   ·subst e;rcases B with B|B
    ·exact absurd b B
    ·omega
   ·exact h.bc q (by omega) a b
end
section
variable {F G:PH} {w:Gwc} {k bx a:Nat} {o:Sl} {As:List (Ψ)}
theorem qhF {left:Nat} (D:GwO G w k) (hL:∀b∈w.L,b<256) (hl:left<w.g.qa1.length) (hH:w.H.getD left 0<1000) (h:St G F (GB bx w a o As)):
  ν 102 #[Pp bx,U (left:Int)] F λr Q=>∃p a' E,r=U ((p:Nat):Int)/\p<w.g.qa0.length/\VJ w.g p=left/\WZ w p<1000/\(VH w a o.len->WZ w p=w.H.getD left 0)/\a<=a'/\G.le E/\St E Q (GB bx w a' o As):=by
 obtain ⟨o1,o2,o3,o4⟩:=dm D.ok.ok;have ep:=D.gs.p.len;have a1:=D.hts.hf.len;have b5:=D.hts.cap;have b8:=D.hi.len;rw [ub] at b8;refine qcQ ?_;unfold Oy;have h:=(h.push (A:=own pi 3 1 ((Vc []).map U)) (H:=λ_=>I) (.inl ⟨rfl,rfl⟩) (λb X=>absurd rfl X) (λb o X=>by cases X) (au _)).swap;refine ⟨λm al C q Q=>∃(p:Nat) (E:PH) (l:Δ),q=p/\p<=w.g.qa0.length/\m=w.g.qa0.length - p/\ChI w left p l C/\G.le E/\St E Q (GB bx w a o (own al 3 1 ((Vc l).map U)::As)),w.g.qa0.length,⟨0,G,[],rfl,yv _,rfl,.init,au _,h⟩,?_⟩;rintro _ al C _ F1 ⟨p,G1,l,rfl,hp,rfl,M,l1,h⟩;unfold Dm;refine ⟨_,rfl,_,h.ld0 (i:=5) rfl,λJ=> ?_,λc8=> ?_⟩
 ·have J:p<w.g.qa0.length:=by omega
  have hx:w.g.qa0[p]? =V w.g.qa0[p]:=N5 J;generalize w.g.qa0[p]=x at hx;have b1:VJ w.g p=x.left.toNat:=by unfold VJ;rw [hx];rfl
  obtain ⟨_,_,⟨a8,c7,_⟩,_⟩:=D.ok.prod (vQ hx);have a8:0<=x.left:=a8;have P:=D.le l1;refine ⟨w.gv,rfl,h.row0 (o:=0) rfl,w.c,h.ld0 (i:=9) rfl,w.hi,h.ld0 (i:=12) rfl,?_⟩;refine h.runv (oB P.gv D.ok D.fam D.c0 D.c1 hx P.hi a1 b5) λG2 F2 l2 h=>⟨_,rfl,_,h.ld0 (i:=5) rfl,?_⟩;have K:=aa l1 l2;refine t6 ((P.le l2).gs.p.le h.le) (by decide) (by omega) (by omega) λd4 cc x' a6 a4 hc=> ?_;rw [N4,hx] at a6;cases a6;obtain ⟨rr,n2,l9,rfl,_⟩:=hc;refine ⟨x.left,aM a4 (i:=1) rfl,?_⟩;have j2:∀{E Q:PH} {W:Sl} {l':Δ} {B:Int},G2.le E->ChI w left (p+1) l' B->St E Q (GB bx w a o (own W 3 1 ((Vc l').map U)::As))->∃m',m'<w.g.qa0.length - p/\(λ(m:Nat) (al:Sl) (C q:Int) (Q:PH)=>∃(p:Nat) (E:PH) (l:Δ),q=p/\p<=w.g.qa0.length/\m=w.g.qa0.length - p/\ChI w left p l C/\G.le E/\St E Q (GB bx w a o (own al 3 1 ((Vc l).map U)::As))) m' W B (i64.wrap ((p:Int)+1)) Q:=λ{E Q W l' B} l h1 h=>by rw [aC J];exact ⟨_,by omega,p+1,E,l',rfl,by omega,rfl,h1,aa K l,h⟩
  unfold jw;refine ⟨λa0=>j2 (au _) (M.skip (.inl (by rw [b1];omega)) hH) h,λd1=>⟨λb4=>j2 (au _) (M.skip (.inr (by show 1000<=hgt _ _ _ _;omega)) hH) h,λb6=> ?_⟩⟩;have h1:VJ w.g p=left:=by rw [b1];omega
  have h2:WZ w p<1000:=by show hgt _ _ _ _<1000;omega
  refine h.push1 sG (c:= #[U (p:Int)]) rfl (by simp [ak]) (by have:=(h.ownAt (i:=1) rfl).1.rd.len;rw [ub,ub] at this;have:=M.len;omega) λc5 G3 F3 l3 h _=> ?_;have h:St G3 F3 (GB bx w a o (own c5 3 1 ((Vc (l++[p])).map U)::As)):=by rw [show (Vc (l++[p])).map U=(Vc l).map U++(#[U (p:Int)]:Γ).toList by unfold Vc;rw [yT,yT];rfl];exact h
  refine ⟨_,h.ld0 (i:=12) rfl,?_⟩;refine t6 ((P.le (aa l2 l3)).hi.le h.le) (by decide) (by omega) (by omega) λc9 c2 y hy N a2=> ?_;obtain rfl:c2= #[U y]:=a2;have hy:=Bj hy;rw [N4] at hy;subst hy;refine ⟨_,aE N rfl,λhe=>⟨λX=> ?_,λX=> ?_⟩,λa0=> ?_⟩
  ·exact j2 l3 (M.take J h1 h2 (.inl ⟨by show hgt _ _ _ _=_;omega,X,rfl⟩)) h
  ·exact j2 l3 (M.take J h1 h2 (.inr ⟨.inr X,rfl⟩)) h
  ·exact j2 l3 (M.take J h1 h2 (.inr ⟨.inl (by show ¬hgt _ _ _ _=_;omega),rfl⟩)) h
 ·have:p=w.g.qa0.length:=by omega
  subst this;unfold Dl;obtain ⟨G2,l2,b9,h⟩:=h.swap.pinO;have a9:=RL.ints.2 b9;obtain ⟨pb,b3,a7,b7⟩:=D.hts.hf.best left hl hH;have R:=M.bc pb b3 a7 b7;obtain ⟨q,rfl,q1,q2,q3⟩:=M.b0.resolve_left R;have a0:=M.cm pb b3 a7 (by show hgt _ _ _ _<_;omega);have d0:al.len=l.length:=by have:=a9.len;rwa [ub] at this
  have c6:0<l.length:=List.length_pos_of_mem a0;have d2:=M.len;have K:=aa l1 l2;refine ⟨_,rfl,_,h.ld0 (i:=11) rfl,_,h.ld0 (i:=10) rfl,λb2=> ?_,λb2=>⟨_,h.ld0 (i:=13) rfl,λb4=> ?_,λb6=> ?_⟩⟩
  ·exact ⟨q,a,G2,rfl,q1,q2,by rw [q3];exact hH,λ_=>q3,qX _,K,h⟩
  ·exact ⟨q,a,G2,rfl,q1,q2,by rw [q3];exact hH,λ_=>q3,qX _,K,h⟩
  ·have el:=D.l.len;rw [ub,xB] at el;refine (jv (D.le K) hL (n:=(al.len:Int)) (by omega) h).mono ?_;rintro _ F4 ⟨v,a3,rfl,v0,v1,c4,h⟩;refine ⟨_,rfl,?_⟩;refine t6 (a9.le h.le) (by decide) v0 v1 λd3 c3 y hy O a5=> ?_;obtain rfl:c3= #[U y]:=a5;have hm:=M.mem;rw [yc] at hy;obtain ⟨z,hz,rfl⟩:=Zd.1 hy;obtain ⟨m1,m2,m3⟩:=hm z (vQ hz);refine ⟨_,aE O rfl,z,a3,G2,rfl,m1,m2,m3,λhn=> ?_,c4,K,h⟩;rcases hn with hn|hn
   ·exact absurd b2 (by omega)
   ·exact absurd b6 (by omega)
end
theorem TL:∃b z,SlT 92 137 4 b z:=⟨_,_,underlying92,qft,qfz,rfl,by decide,by decide⟩
abbrev Tmn.key (x:Tmn):Int×Int:=(x.pr,x.tk)
structure TmO (x:Tmn):Prop where
 rl:x.rm.length<=3
 rs:∀r∈x.rm,ByteArray.size r<=4
 tl:x.tx.size<=1000
 tp:x.pr<0->0<x.tx.size
 inn:0<=x.pr->x.tx=emp/\x.rm=[]
structure GwS (g:Gr):Prop where
 n3:g.qa1.length<=3
 r5:∀x∈g.qa0,x.right.length<=5
 tk:∀(i:Nat) (x:Tk),g.qa2[i]? =V x->x.cls=0->x.lit.size<=1000/\x.smp.size<=1000/\(x.lit.size=0->0<x.smp.size)
def WC (w:Gwc) (s:Sy):Nat:=if s.t=mY then 0 else w.H.getD s.i.toNat 0
def Y0 (w:Gwc) (s:Sy):Prop:=mv w.g s/\(s.t=mY->(eG w.g s.i).ev (wo w.c)=mY)/\(s.t=mz->w.H.getD s.i.toNat 0<1000)
abbrev TM (bx:Nat) (w:Gwc) (a:Nat) (o:Sl) (vs:List Γ) (As:List (Ψ)):List (Ψ):=GB bx w a o (own o 137 4 (tZ vs)::As)
def ZE (G:PH) (bx:Nat) (w:Gwc) (_ a:Nat) (T:List Tmn) (s:Sy) (As:List (Ψ)) (F':PH):Prop:=
 ∃G' a' o' vs' m tms,G.le G'/\a<=a'/\bS G' (T++tms) vs'/\St G' F' (TM bx w a' o' vs' As)/\(tms.map Tmn.key=Uz m)/\wm w.g (wo w.c) s m/\GrR (VH w a T.length) (WC w s) T.length m/\∀x∈tms,TmO x
section
variable {F G:PH} {w:Gwc} {k bx a:Nat} {o:Sl} {As:List (Ψ)} {T:List Tmn} {vs:List Γ}
theorem CV {G F:PH} {As:List (Ψ)} {o:Sl} {e i:Nat} {vs:List Γ} {T:List Tmn} (r:bS G T vs) (h:St G F As) (hi:As[i]? =V (own o e 4 (tZ vs))):o.len=T.length:=by have g:=(h.ownAt hi).1.rd.len;rw [r.cat_len] at g;have g:T.length*4=o.len*4:=g;omega
theorem ue {r:Γ} {x:Tmn} (J:bS G T vs) (D:Mem.rep G x r) (O:T.length<=1000000) (h:St G F (TM bx w a o vs As)) {C:Ψ} (L:∀A H o' g,G.le A->bS A (T++[x]) g->o'.len=T.length+1->St A H (TM bx w a o' g As)->C H):
  ∀b,F b=I->xG (F.set b (Y r 137)) λF=>aG prog (Builtin.append_ #[92,92] 92 #[o.v,nE (Sl.mk (V (ou b 0 I)) 1 1)]) F λv F=>∃E:Sl,v=nE E/\qW F (ou bx 13 I) (nE E) C:=by
 obtain ⟨_,_,TV⟩:=TL;have N:=CV J h (i:=1) rfl;refine h.push1 TV (c:=r) (Mem.len D) (Mem.st D) (by omega) λo' K P B h M=> ?_;refine h.set0 (w':=w.arr a o') (vx rfl) rfl λF2 h=> ?_;refine L K F2 o' (vs++[r]) B ((J.le B).append (.cons (Mem.le B D) .nil)) (by omega) ?_;show St K F2 (GB bx w a o' (own o' 137 4 (tZ (vs++[r]))::As));rw [ba,cI];exact h
theorem x9 {s:Sy} (hw:GwO G w k) (hL:∀b∈w.L,b<256) (hg:GwS w.g) (hs:Y0 w s) (M:s.t=mY) (hr:bS G T vs) (hT:T.length<=100000) (h:St G F (TM bx w a o vs As)):
  ν 73 #[Pp bx,nL s.arr] F λr E=>r=pk #[]/\ZE G bx w k a T s As E:=by
 obtain ⟨o1,o2,o3,o4⟩:=dm hw.ok.ok;obtain ⟨⟨s0,_,s2⟩,a4,_⟩:=hs;obtain ⟨C,H,W⟩:=s2 M;obtain ⟨g1,g2,g3⟩:=hg.tk _ _ H W;have c5:s.i.toNat<w.g.qa2.length:=(N6.1 H).1;have et:=hw.gs.t.len;refine UK ?_;unfold RU;refine h.newG λb3 G1 F1 l1 q3 _ h=> ?_;have Q:=h.le _ _ q3;refine ⟨_,ld Q rfl,λ_=> ?_,λhn=>(by rw [M] at hn;cases hn)⟩;have O:=hw.le l1;have a0:=hr.le l1;refine ⟨_,rfl,w.tk,h.ld0 (i:=3) rfl,s.i,ld Q rfl,?_⟩;refine t6 O.gs.t (by decide) s0 (by omega) λc8 c6 c7 B K hc=>⟨_,Mem.len hc,aN h.le K,?_⟩;rw [H] at B;cases B;obtain ⟨pp,nn,rfl,hp,hn⟩:=id hc;refine h.var (Mem.st hc) (λb4 G2 F2 l2 q4 h=> ?_) rfl rfl;have N:=O.le l2;have a1:=a0.le l2;refine ⟨s.i,ld (h.le _ _ (l2 _ _ q3)) rfl,C.lit,ld (h.le _ _ q4) rfl,?_⟩;refine h.new λb5 F3 h=>h.put0 (w':= #[U (-1),U s.i,pe C.lit,tS I 0 0]) rfl rfl (by simp [ak]) λF4 h=> ?_;have h:St G2 F4 (GB bx w a o (pt b5 (Y #[U (-1),U s.i,pe C.lit,Sl.nil.v] 137)::own o 137 4 (tZ vs)::As)):=h.swap;have b2:=aa l1 l2;have j1:∀{G' E:PH} {a':Nat} {D:ο},G2.le G'->a<=a'->D.size<=1000->0<D.size->St G' E (GB bx w a' o (pt b5 (Y #[U (-1),U s.i,pe D,Sl.nil.v] 137)::own o 137 4 (tZ vs)::As))->rk (ou bx 0 I) b5 (λr E=>r=pk #[]/\ZE G bx w k a T s As E) E:=λ{G' E a' D} l ha b9 a8 h=>by
  unfold rk;refine (lC (N.le l) hL h).mono ?_;rintro _ F5 ⟨sr,lr,G5,a5,rfl,b7,a2,a7,l5,c4,h⟩;refine ⟨_,rfl,?_⟩;refine h.set1 (w':= #[U (-1),U s.i,pe D,sr.v]) (vx rfl) rfl λF6 h=> ?_;refine ⟨_,h.ld0 (i:=13) rfl,_,rfl,h.whole1,rfl,?_⟩;have hx:Mem.rep G5 (⟨-1,s.i,D,lr⟩:Tmn) #[U (-1),U s.i,pe D,sr.v]:=⟨sr,rfl,b7⟩;have R:=aa l l5;refine ue (a1.le R) hx (by omega) h.swap.tail λG7 F7 o' b0 J b6 _ h=>⟨rfl,G7,a5,o',b0,.lf s.i,[⟨-1,s.i,D,lr⟩],aa b2 (aa R J),by omega,b6,h,?_,?_,.qa6,λy hy=> ?_⟩
  ·rw [rK];show [((-1:Int),s.i)]=(-1,s.i)::VZ [];rw [jB]
  ·unfold wm;exact ⟨by cases s;simp at M;subst M;rfl,s0,by omega,a4 M⟩
  ·rw [vy] at hy;subst hy;exact ⟨a7,a2,b9,λ_=>a8,λh=>absurd h (by show ¬(0:Int)<=-1;decide)⟩
 refine ⟨C.lit,ld (h.le _ _ q4) rfl,λhe=> ?_,λX=> ?_⟩
 ·have hz:C.lit.size=0:=by rw [mj,δ] at he;rw [he];rfl
  refine ⟨C.smp,ld (h.le _ _ q4) rfl,?_⟩;refine h.set1 (w':= #[U (-1),U s.i,pe C.smp,Sl.nil.v]) (vx rfl) rfl λF5 h=> ?_;refine (jv N hL (n:=6) (by decide) h).mono ?_;rintro _ F6 ⟨v,a6,rfl,v0,v1,c3,h⟩;refine ⟨_,rfl,?_⟩;refine h.newG λb1 G7 F7 J a3 _ h=> ?_;have A:∃x:ο,x.size<=4/\0<x.size/\F7.cell (nR (ou b1 0 I) (nT v*1))=V (pe x):=by
   have q:=h.le _ _ a3;have e:v=0\/v=1\/v=2\/v=3\/v=4\/v=5:=by omega
   rcases e with rfl|rfl|rfl|rfl|rfl|rfl
   ·exact ⟨_,by decide,by decide,ld q (i:=0) rfl⟩
   ·exact ⟨_,by decide,by decide,ld q (i:=1) rfl⟩
   ·exact ⟨_,by decide,by decide,ld q (i:=2) rfl⟩
   ·exact ⟨_,by decide,by decide,ld q (i:=3) rfl⟩
   ·exact ⟨_,by decide,by decide,ld q (i:=4) rfl⟩
   ·exact ⟨_,by decide,by decide,ld q (i:=5) rfl⟩
  obtain ⟨x,c2,a9,A⟩:=A;refine ⟨_,rfl,v0,v1,x,A,_,rfl,ai (h.le _ _ (J _ _ q4)),?_⟩;refine h.run (P:=λr _=>∃b,r=nS b) (gY (Mem.le (aa l2 J) hc) (by omega)) λr G8 F8 b8 l8 h=> ?_;obtain ⟨b,rfl⟩:=b8;refine ⟨_,rfl,λ_=> ?_,λ_=>j1 (aa J l8) (by omega) g2 (g3 hz) h⟩;exact h.set1 (w':= #[U (-1),U s.i,pe x,Sl.nil.v]) (vx rfl) rfl λF9 h=>j1 (aa J l8) (by omega) (by omega) a9 h
 ·refine j1 (au _) (qX _) g1 ?_ h;rw [mj,decide_eq_false_iff_not] at X;refine Nat.pos_of_ne_zero λhz=>X ?_;generalize C.lit=d at hz;obtain ⟨d⟩:=d;have:d= #[]:=Array.eq_empty_of_size_eq_zero hz;rw [this]
theorem ve {w:Gwc} {s:Sy} (r:Hts w.g w.c w.H) (A:GwS w.g) (h:Y0 w s):WC w s<=3:=by
 unfold WC;cases ht:s.t with
 |true=>rw [Χ rfl];omega
 |false=>rw [Υ (by decide)];have:=h.1.2.1 ht;have:=h.1.1;have:=r.hf.le s.i.toNat (by omega) (h.2.2 ht);have:=A.n3;omega
theorem FF (hL:∀b∈w.L,b<256) (hg:GwS w.g):∀(d:Nat),d<=44->∀{G F:PH} {a:Nat} {o:Sl} {T:List Tmn} {vs:List Γ} {s:Sy},GwO G w k->Y0 w s->(VH w a T.length->WC w s<=d)->(¬VH w a T.length->44 - T.length<=d)->(T.length<=40\/T.length+300*d<=70000)->bS G T vs->St G F (TM bx w a o vs As)->
  ν 73 #[Pp bx,nL s.arr] F λr F'=>r=pk #[]/\ZE G bx w k a T s As F':=by
 intro d;induction d with
 |zero=>
  intro _ G F a o T vs s M R h1 h2 h3 hr h;by_cases C:s.t=mY
  ·exact x9 M hL hg R C hr (by omega) h
  ·exfalso;have C:s.t=mz:=by simpa using C
   have hH:=R.2.2 C;have a9:=R.1.1;have g6:=R.1.2.1 C;obtain ⟨q,q1,q2,q3⟩:=M.hts.hf.best s.i.toNat (by omega) hH;have D:1<=WZ w q:=by show 1<=hgt _ _ _ _;unfold hgt;split<;>omega
   have D:1<=hgt (WR w.g w.c) (VB w.g) w.H q:=D;by_cases B:VH w a T.length
   ·have:=h1 B;unfold WC at this;rw [Υ (by rw [C];decide)] at this;omega
   ·have:=h2 B;unfold VH at B;omega
 |succ d ih=>
  intro hd G F a o T vs s M R h1 h2 h3 hr h;by_cases C:s.t=mY
  ·exact x9 M hL hg R C hr (by omega) h
  have C:s.t=mz:=by simpa using C
  have hH:=R.2.2 C;have a9:=R.1.1;have g6:=R.1.2.1 C;have b4:WC w s=w.H.getD s.i.toNat 0:=by unfold WC;rw [Υ (by rw [C];decide)]
  have g2:=ve M.hts hg R;have hT:T.length<=70000:=by omega
  have e7:=CV hr h (i:=1) rfl;have e9:((s.i.toNat:Nat):Int)=s.i:=by omega
  refine UK ?_;unfold RU;refine h.newG λb3 G1 F1 l1 q3 _ h=> ?_;have b7:=h.le _ _ q3;refine ⟨_,ld b7 rfl,λB=>(by rw [C] at B;cases B),λ_=>⟨s.i,ld b7 rfl,?_⟩⟩;rw [<- e9];refine (qhF (M.le l1) hL (by omega) hH h).mono ?_;rintro _ F2 ⟨p,a1,G2,rfl,p1,p2,p3,p4,i0,l2,h⟩;rw [e7] at p4;refine ⟨_,rfl,_,rfl,_,h.ld0 (i:=13) rfl,rfl,?_⟩;have c6:=aa l1 l2;have hx:w.g.qa0[p]? =V w.g.qa0[p]:=N5 p1;generalize w.g.qa0[p]=x at hx;have g1:VJ w.g p=x.left.toNat:=by unfold VJ;rw [hx];rfl
  have e1:VB w.g p=x.right:=by unfold VB;rw [hx];rfl
  obtain ⟨_,_,⟨b5,_⟩,e8⟩:=M.ok.prod (vQ hx);have b5:0<=x.left:=b5;have c8:=hg.r5 x (vQ hx);have p3:hgt (WR w.g w.c) (VB w.g) w.H p<1000:=p3;have d1:(bI w.g p).ev (wo w.c)=mY:=RQ p3;have b8:=M.ok.prs_ev hx (wo w.c);rw [d1,M.fam,Wy] at b8;obtain ⟨e3,c5⟩:=Xk.1 b8.symm;rw [Vn] at c5;have D:1<=WC w s:=by obtain ⟨q,q1,q2,q3⟩:=M.hts.hf.best s.i.toNat (by omega) hH;rw [b4,<- q3];unfold hgt;split<;>omega
  have c3:∀K∈x.right,Y0 w K/\(VH w a T.length->WC w K<=WC w s - 1):=λK hm=>by
   have ok:=e8 K hm;have c4:K.t=mz->w.H.getD K.i.toNat 0<hgt (WR w.g w.c) (VB w.g) w.H p:=λe=>(Mm p3 (by rw [e1];exact hm) e).2;refine ⟨⟨ok,λe=> ?_,λe=> ?_⟩,λB=> ?_⟩
   ·have:=c5 K hm;rw [e] at this;simpa using this
   ·have:=c4 e;omega
   ·unfold WC;cases e:K.t with
    |true=>rw [Χ rfl];omega
    |false=>rw [Υ (by decide)];have:=c4 e;have e4:hgt (WR w.g w.c) (VB w.g) w.H p=w.H.getD s.i.toNat 0:=p4 B;have e5:(if s.t=mY then 0 else w.H.getD s.i.toNat 0)=w.H.getD s.i.toNat 0:=b4;omega
  have f6:Mem.rep G2 (⟨(p:Int),-1,emp,[]⟩:Tmn) #[U (p:Int),U (-1:Int),pe ⟨#[]⟩,tS I 0 0]:=⟨pi,rfl,RL.nil _⟩;refine ue (hr.le c6) f6 (by omega) h λG3 F3 o3 d4 l3 e6 g8 h=> ?_;have g3:=aa c6 l3;refine bC (Bg · (ou bx 0 I) (p:Int) _) x.right.length (λj F'=>∃G' a' o' c2 J A,G3.le G'/\a1<=a'/\bS G' (T++[⟨(p:Int),-1,emp,[]⟩]++A) c2/\St G' F' (TM bx w a' o' c2 As)/\A.map Tmn.key=VZ J/\TrL w.g (wo w.c) (x.right.take j) J/\GrL (VH w a T.length) (WC w s - 1) (T.length+1) J/\(∀y∈A,TmO y)/\J.length=j) ⟨G3,a1,o3,d4,[],[],au _,qX _,by rw [yn];exact e6,h,by rw [jB];rfl,by rw [Am];exact .nil,.nil,λy Q=>(by cases Q),rfl⟩ ?_;rintro j F4 N hj ⟨G4,a4,o4,f9,J,A,l4,h0,b2,h,b0,a7,W,b6,e0⟩ next;have d0:=aa g3 l4;have a2:=M.le d0;have ep:=a2.gs.p.len;have f5:A.length=yX J:=by rw [<- MA,<- b0,ub]
  have E:(T++[(⟨(p:Int),-1,emp,[]⟩:Tmn)]++A).length=T.length+1+yX J:=by rw [tT,tT,f5];rfl
  unfold Bg;refine ⟨_,h.ld0 (i:=5) rfl,?_⟩;refine t6 a2.gs.p (by decide) (by omega) (by omega) λh4 cc x' P O hc=> ?_;rw [N4,hx] at P;cases P;obtain ⟨rr,n2,l9,rfl,f7,_⟩:=hc;have g9:=f7.len;refine ⟨rr,aM (aN h.le O) (i:=2) rfl,λa6=> ?_,λg7=> ?_⟩
  ·have a6:j<x.right.length:=by omega
   refine ⟨_,h.ld0 (i:=5) rfl,?_⟩;refine t6 a2.gs.p (by decide) (by omega) (by omega) λi1 cc x' P O hc=> ?_;rw [N4,hx] at P;cases P;obtain ⟨r2,n3,l8,rfl,b1,_⟩:=hc;have i3:=b1.len;refine ⟨r2,aM (aN h.le O) (i:=2) rfl,?_⟩;have a3:x.right[j]? =V x.right[j]:=N5 a6;generalize x.right[j]=K at a3;refine t6 b1 (by decide) (by omega) (by omega) λh8 d3 h9 c7 a0 b9=> ?_;rw [N4,a3] at c7;cases c7;obtain rfl:d3=K.arr:=b9;refine ⟨K.arr,rfl,aN h.le a0,?_⟩;obtain ⟨k1,k2⟩:=c3 K (vQ a3);have k3:=ve M.hts hg k1;have mono:VH w a T.length->VH w a4 (T++[(⟨(p:Int),-1,emp,[]⟩:Tmn)]++A).length:=λB=>by rw [E];unfold VH at B ⊢;omega
   have a8:T.length+1+yX J<=40\/T.length+1+yX J+300*d<=70000:=by
    by_cases i2:T.length<=40
    ·obtain ⟨f,f1,f2,f3⟩:=W.fb;right;omega
    ·right;have B:=W.nfb (.inr (by omega));have h6:6 ^ (WC w s - 1)<=6 ^ 2:=Wu (by decide) (by omega);have h7:J.length*6 ^ (WC w s - 1)<=5*36:=Yo (by omega) h6;omega
   refine (ih (by omega) a2 k1 (λB=> ?_) (λB=> ?_) (by rw [E];exact a8) b2 h).mono ?_
   ·by_cases X:VH w a T.length
    ·have:=k2 X;have:=h1 X;omega
    ·have:=h2 X;unfold VH at X;omega
   ·have X:¬VH w a T.length:=λX=>B (mono X);have:=h2 X;rw [E];rw [E] at B;unfold VH at B X;omega
   ·rintro _ F5 ⟨rfl,G5,a5,o5,f4,m,g4,l5,h5,c8,h,g5,d2,c9,e2⟩;refine ⟨rfl,?_⟩;rw [aC a6];refine next _ a6 ⟨G5,a5,o5,f4,J++[m],A++g4,aa l4 l5,by omega,?_,h,?_,?_,?_,λy Q=> ?_,by rw [tT,e0];rfl⟩
    ·rw [<- xK];exact c8
    ·rw [yT,b0,g5,rL,gJ,jB,yn]
    ·rw [bo a3];exact a7.snoc d2
    ·rw [E] at c9;rw [E] at mono;exact W.snoc c9 mono k2
    ·rcases vd.1 Q with Q|Q
     ·exact b6 y Q
     ·exact e2 y Q
  ·have:j=x.right.length:=by omega
   subst this;rw [wy] at a7;refine ⟨rfl,G4,a4,o4,f9,.nd (p:Int) J,⟨(p:Int),-1,emp,[]⟩::A,d0,by omega,?_,h,?_,?_,?_,λy Q=> ?_⟩
   ·rw [show T++(⟨(p:Int),-1,emp,[]⟩:Tmn)::A=T++[⟨(p:Int),-1,emp,[]⟩]++A by simp];exact b2
   ·rw [rK,xw,b0];rfl
   ·unfold wm;refine ⟨x,?_,?_,e3,a7⟩
    ·unfold VD;rw [Χ (by omega),N4];exact hx
    ·obtain ⟨st,si⟩:=s;have C:st=mz:=C;have e:x.left.toNat=si.toNat:=by rw [<- g1];exact p2
     have a9:0<=si:=a9;have:si=x.left:=by omega
     rw [C,this]
   ·exact .nd W (by omega) D id (λ_=>g2) (by
     by_cases B:VH w a T.length
     ·exact .inl B
     ·unfold VH at B
      exact .inr (by omega))
   ·rcases tD.1 Q with rfl|Q
    ·exact ⟨yv _,λr hr=>(by cases hr),yv _,λB=>absurd B (by show ¬(p:Int)<0;omega),λ_=>⟨rfl,rfl⟩⟩
    ·exact b6 y Q
end
theorem CW:∀(n:Nat) (c:Nat->Bool),∃m,m<2 ^ n/\∀i,i<n->m.testBit i=c i
 |0,c=>⟨0,by decide,λi h=>by omega⟩
 |n+1,c=>by
  obtain ⟨m,w,g⟩:=CW n λi=>c (i+1);have r:=Bool.toNat_le (c 0);refine ⟨2*m+(c 0).toNat,by rw [Nat.pow_succ];omega,λi hi=> ?_⟩;cases i with
  |zero=>
   rw [Nat.testBit_zero];cases c 0
   ·rw [Bool.toNat_false];exact η (by omega)
   ·rw [Bool.toNat_true];exact ε (by omega)
  |succ i=>rw [Nat.testBit_succ,show (2*m+(c 0).toNat) / 2=m by omega];exact g i (by omega)
section
variable {F G:PH} {g:Gr} {k:Nat} {c:Int}
theorem Q9 (r:OkK g k) (h:Uh g c=mY):(uc g.fam).ev (wo c)=mY:=by unfold Uh at h;have A:=(Xk.1 h).2;have w:=mP (r.fam.1.small r.le) c;rw [<- r.fam.2,A] at w;exact w.symm
theorem GX (r:OkK g k) {m:Nat} (w:m<2 ^ k) (A:(uc g.fam).ev (wo (m:Nat))=mY):Uh g (m:Int)=mY:=by have B:=r.le;have h:=mP (r.fam.1.small r.le) (m:Int);rw [<- r.fam.2,A] at h;unfold Uh;rw [h,Bool.and_true,r.len,show min k 64=k by omega];refine ε ?_;rw [YB _ (by exact_mod_cast yv (2 ^ k))];exact Int.ediv_eq_zero_of_lt (by omega) (by exact_mod_cast w)
theorem GY (h:OkK g k) (B:k<=3):∃m:Nat,m<8/\Uh g (m:Int)=mY:=by
 refine Classical.byContradiction λr=>h.fam0 ?_;refine Tr.eq_of_ev h.fam.1.1 trivial λx=> ?_;have C:2 ^ k<=2 ^ 3:=Wu (by decide) B;cases e:(uc g.fam).ev x with
 |false=>rfl
 |true=>
  obtain ⟨m,A,w⟩:=CW k x;have:(uc g.fam).ev (wo (m:Nat))=mY:=by rw [<- e];exact me h.fam.1.2 λi hi=>by rw [<- w i hi];simp [wo]
  exact absurd ⟨m,by omega,GX h A this⟩ r
theorem qia {v:Γ} {j:Nat} (hg:GV F v g) (hk:OkK g k) (h3:k<=3) (hj:j<256):
  ν 65 #[nL v,ru .u8 (j:Int)] F λr P=>∃m:Nat,r=ru .u64 (m:Int)/\m<8/\Uh g (m:Int)=mY/\F.le P:=by
 have hv:=hg.size;refine qg4 ?_;unfold UI;refine (St.start F).newG λb2 G1 F1 l1 q2 _ h=> ?_;have h:=h.push (A:=own pi 41 1 (([]:Δ).map vC)) (H:=λ_=>I) (.inl ⟨rfl,rfl⟩) (λb E=>absurd rfl E) (λb o E=>by cases E) (au _);refine gx (λN x v F=>A9 N (j:Int) b2 _ x v F) 8 (λc s P=>∃(R:PH) (l:Δ),G1.le R/\(∀m∈l,m<8/\Uh g (m:Int)=mY)/\(∀m,m<c->Uh g (m:Int)=mY->m∈l)/\l.length<=c/\St R P [own s 41 1 (l.map vC)]) pi ⟨G1,[],au _,λm D=>(by cases D),λm D=>(by omega),qX _,h⟩ ?_;rintro c s F2 N hc ⟨G2,l,O,Q,D,a1,h⟩ next;have J:=aa l1 O;unfold A9;refine ⟨λw=> ?_,λa0=> ?_⟩
 ·have w:c<8:=by omega
  refine ⟨v,hv,ai (h.le _ _ (O _ _ q2)),?_⟩;have ec:u64.wrap ((c:Int)+1)=((c+1:Nat):Int):=by unfold IntKind.wrap;simp [IntKind.signed,IntKind.bits];omega
  refine h.runv (FL (hg.le J) hk.ok (by omega) (by omega)) λG3 F3 X h=>⟨_,rfl,λhy=> ?_,λhn=> ?_⟩
  ·refine h.push0 qga (c:= #[vC c]) rfl (by simp [ak]) (by have:=(h.ownAt (i:=0) rfl).1.rd.len;rw [ub] at this;omega) λs' G4 F4 l4 h _=> ?_;unfold vM;rw [ec];refine next _ _ w ⟨G4,l++[c],aa O (aa X l4),λm B=> ?_,λm B M=> ?_,by rw [tT];show _+1<=_;omega,?_⟩
   ·rcases vd.1 B with B|B
    ·exact Q m B
    ·rw [vy] at B;subst B;exact ⟨w,hy⟩
   ·by_cases e:m=c
    ·subst e;simp
    ·exact vd.2 (.inl (D m (by omega) M))
   ·rw [yT];exact h
  ·unfold vM;rw [ec];refine next _ _ w ⟨G3,l,aa O X,Q,λm B M=> ?_,by omega,h⟩;by_cases e:m=c
   ·subst e;rw [M] at hn;cases hn
   ·exact D m (by omega) M
 ·have:c=8:=by omega
  subst this;obtain ⟨m0,h0,B⟩:=GY hk h3;have W:=List.length_pos_of_mem (D m0 h0 B);have C:=(h.ownAt (i:=0) rfl).1.rd;have K:=C.len;rw [ub,xB] at K;unfold If;have e1:i64.wrap (j:Int)=j:=aJ (by omega);rw [e1];have e2:sq (j:Int) (s.len:Int)=((j % s.len:Nat):Int):=by rw [Xu (by omega)];rfl
  rw [e2,N4,xB];have w:j % s.len<l.length:=by rw [K];exact V7 _ (by omega)
  obtain ⟨b0,o0,E,_⟩:=C.cells (by omega);have L:=C.cell E (i:=j % s.len) (by rw [ub];exact w);rw [Yl] at L;obtain ⟨m1,m2⟩:=Q _ (U9 w);exact ⟨by omega,_,E,by omega,by omega,_,L,_,rfl,m1,m2,aa J h.le⟩
structure TmV (F:PH) (g:Gr) (c:Int) (s:Sy) (v:Γ) (T:List Tmn) (tl:List ByteArray) (m:Ttr):Prop where
 ex:∃n t:Sl,v= #[n.v,t.v]/\RL F n T/\RL F t tl
 key:T.map Tmn.key=Uz m
 tr:wm g (wo c) s m
 sz:yR m<=44537
 ok:∀x∈T,TmO x
 t3:tl.length<=3
 t4:∀x∈tl,ByteArray.size x<=4
theorem TmV.le {F G:PH} {g:Gr} {c:Int} {s:Sy} {v:Γ} {T:List Tmn} {r:List ο} {m:Ttr} (h:TmV F g c s v T r m) (l:F.le G):TmV G g c s v T r m:=by obtain ⟨n,t,A,B,w⟩:=h.ex;exact ⟨⟨n,t,A,B.le l,w.le l⟩,h.key,h.tr,h.sz,h.ok,h.t3,h.t4⟩
theorem qfF {C H B w D h E r A u v x:ξ}:rV (rV (rV (wr (#[tS I 0 0,.slice I 0 0,U 0,.slice I 0 0,.slice I 0 0,.slice I 0 0,U 0,.slice I 0 0,.slice I 0 0,.int .u64 0,.slice I 0 0,U 0,.slice I 0 0,.slice I 0 0]:Γ) 0 (#[C,H,B,w,D,h,E,r,A]:Γ).toList) 9 u) 10 v) 12 x= #[C,H,B,w,D,h,E,r,A,u,v,U 0,x,tS I 0 0]:=by kernel_rfl
theorem An {v:Γ} {left:Nat} {l:Sl} {L:Δ} (hg:GV F v g) (hk:OkK g k) (hS:GwS g) (hf:(uc g.fam).ev (wo c)=mY) (c0:0<=c) (c1:c<18446744073709551616) (hl:left<g.qa1.length) (hr:RdS F l 1 (L.map vB)) (hL:∀b∈L,b<256) (a9:L.length<=1000):
  ν 44 #[nL v,ru .u64 c,U (left:Int),l.v] F λr F'=>((∃w,r=pk #[nL w,nS mz]/\w= #[Sl.nil.v,Sl.nil.v])\/∃w T tl m,r=pk #[nL w,nS mY]/\TmV F' g c ⟨mz,left⟩ w T tl m)/\F.le F':=by
 have b9:=hS.n3;have hv:=hg.size;have a1:=hg;obtain ⟨cs,n,t,s,p,lv,f,rfl,hs⟩:=hg;refine qg0 ?_;unfold UD;refine (St.start F).newG λb4 G1 F1 l1 q4 _ h=>h.new λb8 F2 h=> ?_;have K:=h.le _ _ q4;refine ⟨_,rfl,ai K,_,rfl,ai K,?_⟩;refine h.run (P:=λr G'=>∃s l,r=nE s/\RL G' s (Vc l)/\Hts g c l) ((qhE (a1.le l1) hk (by omega) hf c0 c1).mono λr F' ⟨a,b,h1,h2,h3,h4⟩=>⟨⟨a,b,h1,h2,h3⟩,h4⟩) λ_ G3 F3 a4 l3 h=> ?_;obtain ⟨hi,H,rfl,C,Q⟩:=a4;have B:=aa l1 l3;refine ⟨hi,rfl,ai (h.le _ _ (l3 _ _ q4)),rfl,?_⟩;rw [qfF];refine h.new λM F4 h=> ?_;have X:GwO G3 ⟨g,cs,n,t,s,p,lv,f,c,l,L,hi,H⟩ k:=⟨hs.le B,hk,hf,c0,c1,hr.le B,C,Q,a9⟩;have b6:=Q.hf.len;have a6:=C.len;rw [ub] at a6;have h:St G3 F4 (GB M ⟨g,cs,n,t,s,p,lv,f,c,l,L,hi,H⟩ 0 pi [pt b8 (Y (#[Sl.nil.v,Sl.nil.v]) 94)]):=h;generalize D:(⟨g,cs,n,t,s,p,lv,f,c,l,L,hi,H⟩:Gwc)=w at X h;have e1:w.hi=hi/\w.g=g/\w.c=c/\w.H=H/\w.L=L:=by subst D;exact ⟨rfl,rfl,rfl,rfl,rfl⟩
 obtain ⟨e1,e2,e3,e4,e5⟩:=e1;clear D;refine ⟨hi,by rw [<- e1];exact h.ld0 (i:=12) rfl,?_⟩;refine t6 (C.le h.le) (by decide) (by omega) (by omega) λa cc x hx J hc=> ?_;obtain rfl:cc= #[U x]:=hc;have hx:=Bj hx;rw [N4] at hx;subst hx;refine ⟨_,aE J rfl,λb7=> ?_,λc4=> ?_⟩
 ·refine h.put1 (w':= #[Sl.nil.v,Sl.nil.v]) rfl rfl (by simp [ak,nE]) λF5 h=>⟨_,rfl,h.whole1,.inl ⟨_,rfl,rfl⟩,aa B h.le⟩
 ·have h:St G3 F4 (TM M w 0 pi [] [pt b8 (Y (#[Sl.nil.v,Sl.nil.v]) 94)]):=(h.push (A:=own pi 137 4 (tZ [])) (H:=λ_=>I) (.inl ⟨rfl,rfl⟩) (λb hb=>absurd rfl hb) (λb o hb=>by cases hb) (au _)).swap;have N:Y0 w ⟨mz,(left:Int)⟩:=by
   refine ⟨⟨by show 0<=(left:Int);omega,λ_=> ?_,λhn=>(by cases hn)⟩,λhn=>(by cases hn),λ_=> ?_⟩
   ·rw [e2];show (left:Int)<_;omega
   ·show w.H.getD (nT (left:Int)) 0<1000;rw [e4,N4];omega
  have R:∀b∈w.L,b<256:=by rw [e5];exact hL
  have E:GwS w.g:=by rw [e2];exact hS
  have h3:=ve X.hts E N;refine (FF (s:=⟨mz,(left:Int)⟩) R E 44 (qX _) X N (λ_=>by omega) (λ_=>Nat.sub_le _ _) (.inl (yv _)) .nil h).mono ?_;rintro _ F5 ⟨rfl,G5,a5,W,a7,m,b2,l5,_,b3,h,a0,O,b5,a3⟩;refine ⟨rfl,_,h.ld0 (i:=13) rfl,?_⟩;refine h.new λc3 F6 h=>h.put0 (w':= #[W.v,Sl.nil.v]) rfl rfl (by simp [ak,nE]) λF7 h=> ?_;refine (lC (X.le l5) R h.swap).mono ?_;rintro _ F8 ⟨sr,tl,G8,a8,rfl,b0,a2,b1,l8,_,h⟩;refine ⟨_,rfl,?_⟩;refine h.set1 (w':= #[W.v,sr.v]) (vx rfl) rfl λF9 h=> ?_;refine ⟨_,rfl,h.whole1,?_⟩;refine h.put3 (w':= #[W.v,sr.v]) rfl rfl (by simp [ak,nE]) λc2 h=>⟨_,rfl,h.whole3,.inr ⟨_,b2,tl,m,rfl,⟨W,sr,rfl,⟨a7,(b3.le l8).le h.le,(h.ownAt (i:=2) rfl).1.rd⟩,b0.le h.le⟩,a0,?_,b5.bound,a3,b1,a2⟩,aa B (aa l5 (aa l8 h.le))⟩;rw [e2,e3] at O;exact O
end
open Tr
abbrev r01:List Sy:=[⟨mz,0⟩,⟨mz,1⟩]
instance (p:Pr):Decidable (lK p):=by unfold lK;infer_instance
instance (p:Pr):Decidable (pf p):=by unfold pf;infer_instance
structure AC (l:List Pr):Prop where
 each:∀p∈l,lK p\/pf p\/(p.left=0/\p.right=r01)
 one:(∃p∈l,¬lK p/\¬pf p)->∀p∈l,p.left=1->lK p
theorem GZ {k:Nat} (g:k<6):AC (cn k).qa0:=by
 have h:k=0\/k=1\/k=2\/k=3\/k=4\/k=5:=by omega
 rcases h with rfl|rfl|rfl|rfl|rfl|rfl
 ·exact ⟨by show ∀p∈bZ.qa0,_;decide,by show (∃p∈bZ.qa0,_)->∀p∈bZ.qa0,_;decide⟩
 ·exact ⟨by show ∀p∈bQ.qa0,_;decide,by show (∃p∈bQ.qa0,_)->∀p∈bQ.qa0,_;decide⟩
 ·exact ⟨by show ∀p∈aQ.qa0,_;decide,by show (∃p∈aQ.qa0,_)->∀p∈aQ.qa0,_;decide⟩
 ·exact ⟨by show ∀p∈ik.qa0,_;decide,by show (∃p∈ik.qa0,_)->∀p∈ik.qa0,_;decide⟩
 ·exact ⟨by show ∀p∈fK.qa0,_;decide,by show (∃p∈fK.qa0,_)->∀p∈fK.qa0,_;decide⟩
 ·exact ⟨by show ∀p∈fL.qa0,_;decide,by show (∃p∈fL.qa0,_)->∀p∈fL.qa0,_;decide⟩
theorem pv (x:Rw):AC (aS x).qa0:=by
 obtain ⟨_,h⟩:=AQ x;cases hk:bE x with
 |true=>
  have e:cV x=cn (x.qa5 % 8):=by unfold cV;rw [Χ hk]
  rw [e] at h;have C:=GZ (ζ (show decide (x.qa5 % 8<6)=mY from hk));refine ⟨λp g=> ?_,λ⟨p,g,A,B⟩ q D E=> ?_⟩
  ·rcases h p g with h|⟨_,h|⟨h,_⟩⟩
   ·exact C.each p h
   ·exact .inl h
   ·rw [hk] at h;cases h
  ·rcases h p g with w|⟨_,w|⟨w,_⟩⟩
   ·rcases h q D with r|⟨_,r|⟨r,_⟩⟩
    ·exact C.one ⟨p,w,A,B⟩ q r E
    ·exact r
    ·rw [hk] at r;cases r
   ·exact absurd w A
   ·rw [hk] at w;cases w
 |false=>
  have e:∀p∈(cV x).qa0,lK p:=by unfold cV;rw [Υ (by rw [hk];decide)];intro p g;rw [vy.1 g];decide
  have k:∀p∈(aS x).qa0,lK p\/pf p:=λp g=>by
   rcases h p g with h|⟨_,h|⟨_,h⟩⟩
   ·exact .inl (e p h)
   ·exact .inl h
   ·exact .inr h
  exact ⟨λp g=>(k p g).imp id .inl,λ⟨p,g,A,B⟩=>by
   rcases k p g with h|h
   ·exact absurd h A
   ·exact absurd h B⟩
section
variable {l l':List Pr} {P:Nat->Tr} {c:Cf} {k:Int} {E:Pr->Prop}
def ZK (l:List Pr) (x:Pr):Prop:=x.right=[]/\((∃p∈l,¬lK p/\¬pf p)->x.left≠1)
def ZJ (k:Int) (x:Pr):Prop:=x.left=k/\(⟨mz,k⟩:Sy)∈x.right/\∀s∈x.right,s.i=k\/k<s.i
theorem Ra (h:∀x∈l',x∈l\/ZK l x\/(E x/\ZJ k x)) (w:AC l) (r:∃p∈l,¬lK p/\¬pf p) {n:Int} (d:Der l' P mY c n):n≠1:=by
 induction d with
 |mk i x hi C A hd ih=>
  rcases h x (vQ hi) with h|h|⟨_,h⟩
  ·intro e;obtain ⟨s,B,g⟩:=w.one r x h e;exact absurd (A s B g) (by decide)
  ·exact h.2 r
  ·rw [h.1];exact ih _ h.2.1 rfl
theorem Ha (h:∀x∈l',x∈l\/ZK l x\/(E x/\ZJ k x)) (J:AC l) {a b:Int} (R:WY l' P c a b):a<b\/(a=k/\b=k/\∃i x,l'[i]? =V x/\E x/\(P i).ev c=mY):=by
 obtain ⟨i,j,x,s,hi,g,B,rfl,rfl,N,F⟩:=R;have A:=vQ g;rcases h x (vQ hi) with r|r|⟨Q,r⟩
 ·by_cases D:lK x
  ·obtain ⟨y,L,w⟩:=D;obtain ⟨m,C⟩:=List.getElem?_of_mem L;by_cases e:m=j
   ·subst e;rw [g] at C;cases C;rw [B] at w;cases w
   ·have:=(F m y e C).1;rw [w] at this;cases this
  ·by_cases G:pf x
   ·exact .inl (G s A B)
   ·rcases J.each x r with H|H|⟨O,K⟩
    ·exact absurd H D
    ·exact absurd H G
    ·have M:∃p∈l,¬lK p/\¬pf p:=⟨x,r,D,G⟩;rw [K] at g F
     match j,g with
     |0,g=>exact absurd rfl (Ra h J M (F 1 ⟨mz,1⟩ (by decide) rfl).2)
     |1,g=>cases g;exact .inl (by rw [O];decide)
     |j+2,g=>simp at g
 ·rw [r.1] at g;simp at g
 ·rcases r.2.2 s A with e|e
  ·exact .inr ⟨r.1,e,i,x,hi,Q,N⟩
  ·exact .inl (by rw [r.1];exact e)
theorem TP (h:∀x∈l',x∈l\/ZK l x\/(E x/\ZJ k x)) (r:AC l) {a b:Int} (t:Tg (WY l' P c) a b):a<b\/∃i x,l'[i]? =V x/\E x/\(P i).ev c=mY:=by
 induction t with
 |one g=>exact (Ha h r g).imp id λh=>h.2.2
 |snoc _ g ih=>
  rcases ih with ih|ih
  ·rcases Ha h r g with w|w
   ·exact .inl (by omega)
   ·exact .inr w.2.2
  ·exact .inr ih
theorem LW (g:AC l) {n:Int}:¬Tg (WY l P c) n n:=λt=>by
 rcases TP (l':=l) (k:=0) (E:=λ_=>False) (λx r=> .inl r) g t with h|⟨_,_,_,h,_⟩
 ·omega
 ·exact h
end
theorem Hb:∀t∈eX,t.cls=0->t.lit.size<=1000/\t.smp.size<=1000/\(t.lit.size=0->0<t.smp.size):=by decide
theorem Hc (x:Rw):GwS (aS x):=by
 obtain ⟨g,h⟩:=im x;refine ⟨h.n,λp w=>(g.qa0 p w).rl,λi t B A=> ?_⟩;have r:rR t∈eX:=by rw [<- g.qa2.1];exact w9.2 ⟨t,vQ B,rfl⟩
 exact Hb (rR t) r A
theorem lD (x:Rw):OkK (aS x) (aS x).qa4.length:=⟨lZ x,rfl,by have:=(im x).2.c;omega⟩
structure InV (F:PH) (v:Γ) (x:Rw) (j:Nat) (L N:Δ):Prop where
 ex:∃(v0 v1 v2 v3 v4:ξ) (l n:Sl),v= #[v0,v1,v2,v3,v4,.int .u8 (j:Int),l.v,n.v]/\Gi F #[v0,v1,v2,v3,v4] x/\RdS F l 1 (L.map vB)/\RdS F n 1 (N.map vB)
 j:j<256
 l:∀b∈L,b<256
 n:∀b∈N,b<256
theorem InV.le {F G:PH} {v:Γ} {x:Rw} {j:Nat} {L N:Δ} (h:InV F v x j L N) (l:F.le G):InV G v x j L N:=by obtain ⟨A,w,D,E,B,a,b,C,r,g,H⟩:=h.ex;exact ⟨⟨A,w,D,E,B,a,b,C,r.le l,g.le l,H.le l⟩,h.j,h.l,h.n⟩
section
variable {F G:PH} {x:Rw} {j:Nat} {L N:Δ}
def TQ (F:PH) (x:Rw) (r:ξ) (F':PH):Prop:=∃(w:Γ) (c:Nat) (vt:Γ) (ok:Bool),r=pk #[nL w,ru .u64 (c:Int),nL vt,nS ok]/\GV F' w (aS x)/\c<8/\Uh (aS x) (c:Int)=mY/\F.le F'/\
 ((ok=mz/\vt= #[Sl.nil.v,Sl.nil.v])\/(ok=mY/\∃T tl m,TmV F' (aS x) (c:Int) ⟨mz,0⟩ vt T tl m))
theorem yb {w g:Γ} {c O P K bt:Nat} {ok:Bool} {J M:Γ} (B:GV G w (aS x)) (hc:c<8) (hi:Uh (aS x) (c:Int)=mY) (C:(ok=mz/\g= #[Sl.nil.v,Sl.nil.v])\/(ok=mY/\∃T A m,TmV G (aS x) (c:Int) ⟨mz,0⟩ g T A m)) (Q:J.size=9) (R:M.size=2) (W:F.le G)
  (q6:G K=V (Y w 39)) {H:PH} (h:St G H [pt bt (Y g 94),pt P (Y M 94),pt O (Y J 39)]):vJ O P K (c:Int) (V (ou bt 0 I)) ok (TQ F x) H:=by
 have r:g.size=2:=by
  rcases C with ⟨_,rfl⟩|⟨_,T,A,m,D⟩
  ·rfl
  ·obtain ⟨n,t,rfl,_⟩:=D.ex;rfl
 have E:∀y∈g.toList,ak y:=by
  rcases C with ⟨_,rfl⟩|⟨_,T,A,m,D⟩
  ·simp [ak,nE]
  ·obtain ⟨n,t,rfl,_⟩:=D.ex;simp [ak,nE]
 unfold vJ;refine ⟨w,B.size,ai (h.le _ _ q6),_,rfl,g,r,h.whole0,?_⟩;refine h.put2 (w':=w) B.size Q B.st λF2 h=>⟨h.whole0,?_⟩;refine h.put1 (w':=g) r R E λF3 h=>⟨w,B.size,h.whole2,g,r,h.whole1,w,c,g,ok,rfl,B.le h.le,hc,hi,aa W h.le,?_⟩;rcases C with C|⟨X,T,A,m,D⟩
 ·exact .inl C
 ·exact .inr ⟨X,T,A,m,D.le h.le⟩
theorem Ao {v:Γ} (hx:InV F v x j L N):ν 30 #[nL v] F (TQ F x):=by
 obtain ⟨⟨v0,v1,v2,v3,v4,l,n,rfl,hr,hL,_⟩,hj,a9,_⟩:=hx;obtain ⟨mg,bd⟩:=im x;have hk:=lD x;have hS:=Hc x;have a8:=bd.c;have b3:=bd.n0;have a6:=mg.start;have el:=hL.len;rw [ub,xB] at el;have b5:=hL.cap;refine qgZ ?_;unfold UC;refine (St.start F).newG λb1 G1 F1 l1 q1 _ h=>h.new λb2 F2 h=>h.new λb4 F3 h=> ?_;refine ⟨#[v0,v1,v2,v3,v4],rfl,fX (h.le _ _ q1) rfl,?_⟩;refine h.run (P:=λr A=>∃w,r=nL w/\GV A w (aS x)) (qh8 (hr.le l1)) λ_ G2 F4 a7 l2 h=> ?_;obtain ⟨w,rfl,hg⟩:=a7;refine ⟨w,rfl,?_⟩;refine h.var hg.st (λb6 G3 F5 l3 q6 h=> ?_) rfl hg.size;have a5:=aa l1 (aa l2 l3);have W:=l3 _ _ (l2 _ _ q1);have X:=hg.le l3;refine ⟨w,hg.size,ai (h.le _ _ q6),_,ld (h.le _ _ W) rfl,?_⟩;refine h.run (P:=λr A=>∃m:Nat,r=ru .u64 (m:Int)/\m<8/\Uh (aS x) (m:Int)=mY) ((qia X hk a8 hj).mono λr F' ⟨m,a1,a2,a3,a4⟩=>⟨⟨m,a1,a2,a3⟩,a4⟩) λ_ G4 F6 hm l4 h=> ?_;obtain ⟨m,rfl,m8,mi⟩:=hm;have K:=aa a5 l4;have g:=l4 _ _ W;have E:=l4 _ _ q6;have H:=X.le l4;have O:F6.cell (ou b6 6 I)=V (U (0:Int)):=by obtain ⟨_,_,_,_,_,_,_,rfl,_⟩:=H;rw [<- a6];exact ld (h.le _ _ E) (i:=6) rfl
 have a0:nT (min (l.len:Int) 40)=min l.len 40:=by omega
 refine ⟨_,rfl,w,hg.size,ai (h.le _ _ E),0,O,l,ld (h.le _ _ g) rfl,l,ld (h.le _ _ g) rfl,by omega,by omega,by omega,?_⟩;rw [a0];have R:RdS G4 (Sl.cut l 1 0 (min l.len 40) l.cap) 1 ((L.take (min l.len 40)).map vB):=by have:=(hL.le K).cut (l:=0) (r:=min l.len 40) (m:=l.cap) (yv _) (Nat.min_le_left _ _) (by omega);rw [V9,Vf,VP,xB,<- List.map_take] at this;exact this
 have b0:=Q9 hk mi;have C:∀{A:PH},G4.le A->ν 44 #[nL w,ru .u64 (m:Int),U ((0:Nat):Int),(Sl.cut l 1 0 (min l.len 40) l.cap).v] A λr F'=>(∃w',(∃ok,r=pk #[nL w',nS ok]/\((ok=mz/\w'= #[Sl.nil.v,Sl.nil.v])\/(ok=mY/\∃T D t,TmV F' (aS x) (m:Int) ⟨mz,0⟩ w' T D t))))/\A.le F':=λl=>by
  refine (An (H.le l) hk hS b0 (by omega) (by omega) (by omega) (R.le l) (λb hb=>a9 b (YI hb)) (by rw [zZ];omega)).mono ?_;rintro r F' ⟨⟨w',rfl,e⟩|⟨w',T,D,t,rfl,hT⟩,lF⟩
  ·exact ⟨⟨w',mz,rfl,.inl ⟨rfl,e⟩⟩,lF⟩
  ·exact ⟨⟨w',mY,rfl,.inr ⟨rfl,T,D,t,hT⟩⟩,lF⟩
 have Q:∀{A:PH} {w':Γ} {ok:Bool},((ok=mz/\w'= #[Sl.nil.v,Sl.nil.v])\/(ok=mY/\∃T D t,TmV A (aS x) (m:Int) ⟨mz,0⟩ w' T D t))->w'.size=2/\∀y∈w'.toList,ak y:=λM=>by
  rcases M with ⟨_,rfl⟩|⟨_,T,D,t,hT⟩
  ·exact ⟨rfl,by simp [ak,nE]⟩
  ·obtain ⟨n,t,rfl,_⟩:=hT.ex;exact ⟨rfl,by simp [ak,nE]⟩
 refine ⟨?_,?_⟩
 ·refine h.run (P:=λr A=>∃w',(∃ok,r=pk #[nL w',nS ok]/\((ok=mz/\w'= #[Sl.nil.v,Sl.nil.v])\/(ok=mY/\∃T D t,TmV A (aS x) (m:Int) ⟨mz,0⟩ w' T D t)))) (C (au _)) λ_ G5 F7 J B h=> ?_;obtain ⟨w',ok,rfl,M⟩:=J;obtain ⟨v9,v8⟩:=Q M;refine ⟨w',ok,rfl,ld (h.le _ _ (B _ _ g)) rfl,ld (h.le _ _ (B _ _ g)) rfl,?_⟩;refine h.new λb8 F8 h=>h.put0 (w':=w') v9 rfl v8 λF9 h=> ?_;exact yb (H.le B) m8 mi M rfl rfl (aa K B) (B _ _ E) h
 ·refine h.new λb8 F8 h=> ?_;refine h.run (P:=λr A=>∃w',(∃ok,r=pk #[nL w',nS ok]/\((ok=mz/\w'= #[Sl.nil.v,Sl.nil.v])\/(ok=mY/\∃T D t,TmV A (aS x) (m:Int) ⟨mz,0⟩ w' T D t)))) (C (au _)) λ_ G5 F7 J B h=> ?_;obtain ⟨w',ok,rfl,M⟩:=J;obtain ⟨v9,v8⟩:=Q M;refine ⟨w',ok,rfl,ld (h.le _ _ (B _ _ g)) rfl,ld (h.le _ _ (B _ _ g)) rfl,?_⟩;refine h.put0 (w':=w') v9 rfl v8 λF9 h=> ?_;exact yb (H.le B) m8 mi M rfl rfl (aa K B) (B _ _ E) h
end
open Go.ChangeShapes Go.WideShapes Go.ChangeAt Go.RowKit Go.Deep
set_option maxRecDepth 100000
section
section
variable {H:Type} {enc:TypeId×ξ->H} {W:World}
theorem LX:prog.cellsOf 28=8:=by kernel_rfl
theorem Aq {fuel:Nat} {cs:Γ} {x:DataW H×List MemPlace} (h:DataW.trod enc prog W 0 (λ_=>mY) mY fuel 28 cs.toList=V x) (g:(x.1.weights prog 28).all (·<=reachBytes)=mY):
  ∃(F:Rw) (j:Nat) (L N:Δ),InV (hF W) cs F j L N:=by
 obtain ⟨xs,n,_,rfl,P,J,B⟩:=DataW.trod_struct underlying28 h;rw [LX] at P;obtain ⟨cs⟩:=cs
 match cs,P with
 |[c0,c1,c2,c3,c4,c5,c6,c7],_=>
 match xs,J with
 |[x0,x1,x2,x3],_=>
 have f0:=B 0 _ rfl;have M:=B 1 _ rfl;have f2:=B 2 _ rfl;have O:=B 3 _ rfl;simp only [XZ,V3] at f0 M f2 O;obtain ⟨z1,X,_,w1⟩:=DataW.trod_int underlying5 M;cases X;have K:(x0.1.weights prog 26).all (·<=reachBytes)=mY:=by rw [Vn] at g ⊢;intro y w;refine g y ?_;rw [DataW.weights,underlying28];exact DataW.weights_mem_each (j:=0) rfl rfl y w
 have C:(x2.1.weights prog 22).all (·<=reachBytes)=mY:=by rw [Vn] at g ⊢;intro y w;refine g y ?_;rw [DataW.weights,underlying28];exact DataW.weights_mem_each (j:=2) rfl rfl y w
 have G:(x3.1.weights prog 22).all (·<=reachBytes)=mY:=by rw [Vn] at g ⊢;intro y w;refine g y ?_;rw [DataW.weights,underlying28];exact DataW.weights_mem_each (j:=3) rfl rfl y w
 obtain ⟨F,hr⟩:=Jb (cs:= #[c0,c1,c2,c3,c4]) f0 K;obtain ⟨Q,R,rfl,E,A,_⟩:=io f2 C;obtain ⟨sn,bn,rfl,D,r,_⟩:=io O G;obtain ⟨n1,rfl,k1⟩:=eJ w1;exact ⟨F,n1,R,bn,⟨⟨c0,c1,c2,c3,c4,Q,sn,rfl,hr,E,D⟩,k1,A,r⟩⟩
end
def YP (g:Gr) (x:Tmn):Prop:=(x.pr= -1/\0<=x.tk/\x.tk<g.qa2.length)\/(0<=x.pr/\x.pr<g.qa0.length/\x.tk= -1/\x.tx=emp/\x.rm=[])
section
variable {F G:PH} {g:Gr} {x:Tmn}
theorem uf {v w:Γ} (hg:GV F v g) (R:Mem.rep F x w) (X:YP g x):ν 90 #[nL v,nL w] F λr W=>r=nS mY/\F.le W:=by
 obtain ⟨cs,n,t,s,p,l,f,rfl,K⟩:=hg;obtain ⟨r,rfl,Q⟩:=R;have et:=K.t.len;have ep:=K.p.len;refine qgj ?_;unfold UO;refine (St.start F).newG λb2 G1 F1 O q2 _ h=>h.newG λb3 G2 F2 J q3 _ h=> ?_;have C:=h.le _ _ (J _ _ q2);have A:=h.le _ _ q3;have L:=aa O (aa J h.le);rcases X with ⟨D,E,M⟩|⟨D,E,M,P,N⟩
 ·refine ⟨_,ld A rfl,λ_=>⟨_,ld A rfl,λ_=>⟨_,ld A rfl,_,ld C rfl,?_,L⟩,λB=>absurd E B⟩,λB=>absurd D B⟩;rw [ε (by omega)]
 ·have H:=Q.len;rw [N] at H;refine ⟨_,ld A rfl,λB=>(by omega),λ_=>⟨_,ld A rfl,λ_=>⟨_,ld A rfl,_,ld C rfl,λ_=>⟨_,ld A rfl,λ_=>⟨_,ld A rfl,λ_=>⟨_,ld A rfl,?_,L⟩,λB=> ?_⟩,λB=>absurd M B⟩,λB=>absurd (by omega) B⟩,λB=>absurd D B⟩⟩
  ·rw [ε (by rw [H];rfl)]
  ·rw [mj,P] at B;exact absurd B (by decide)
def Yw (g:Gr) (x:Tmn):Sy:=if x.pr= -1 then ⟨mY,x.tk⟩ else ⟨mz,((g.qa0[x.pr.toNat]?).map Pr.left).getD 0⟩
theorem Ar {v w:Γ} (hg:GV F v g) (P:Mem.rep F x w) (R:YP g x):ν 91 #[nL v,nL w] F λr W=>r=nL (Yw g x).arr/\F.le W:=by
 obtain ⟨cs,n,t,s,p,l,f,rfl,J⟩:=hg;obtain ⟨r,rfl,hr⟩:=P;have ep:=J.p.len;refine qgk ?_;unfold UP;refine (St.start F).newG λb2 G1 F1 M q2 _ h=>h.newG λb3 G2 F2 H q3 _ h=>h.new λb4 F3 h=> ?_;have E:=h.le _ _ (H _ _ q2);have A:=h.le _ _ q3;have B:=aa M H;rcases R with ⟨D,L,X⟩|⟨D,L,X,h4,h5⟩
 ·refine ⟨_,ld A rfl,λ_=>⟨_,ld A rfl,?_⟩,λK=>absurd D K⟩;refine h.put0 (w':= #[nS mY,U x.tk]) rfl rfl (by simp [ak]) λQ h=>⟨_,rfl,h.whole0,?_,aa B h.le⟩;unfold Yw;rw [Χ D]
 ·refine ⟨_,ld A rfl,λK=>(by omega),λ_=>⟨p,ld E rfl,_,ld A rfl,?_⟩⟩;refine t6 (J.p.le B) (by decide) D (by omega) λa cc y O C N=> ?_;obtain ⟨rr,n2,l9,rfl,_⟩:=N;refine ⟨y.left,aM (aN h.le C) (i:=1) rfl,?_⟩;refine h.put0 (w':= #[nS mz,U y.left]) rfl rfl (by simp [ak]) λQ h=>⟨_,rfl,h.whole0,?_,aa B h.le⟩;unfold Yw;rw [Υ (by omega),O];rfl
end
section
variable {F G:PH} {g:Gr} {T:List Tmn} {c:Cf}
theorem At {i:Nat} {m:Ttr} {rest:List (Int×Int)} (h:(T.map Tmn.key).drop i=Uz m++rest):∃x,T[i]? =V x/\x.key=kQ m/\(T.map Tmn.key).drop (i+1)=VZ m.kids++rest:=by
 rw [rK] at h;have r:(T.map Tmn.key)[i]? =V (kQ m):=by have:=congrArg (·[0]?) h;simpa using this
 rw [yc] at r;obtain ⟨x,A,w⟩:=Zd.1 r;refine ⟨x,A,w,?_⟩;have:=congrArg (List.drop 1) h;rw [XJ] at this;simpa using this
theorem Rb {x:Tmn} {s:Sy} {m:Ttr} (h:wm g c s m) (r:x.key=kQ m):Yw g x=s:=by
 cases m with
 |lf C=>unfold wm at h;have A:x.pr= -1:=congrArg Prod.fst r;have w:x.tk=C:=congrArg Prod.snd r;unfold Yw;rw [Χ A,w,h.1]
 |nd B E=>unfold wm at h;obtain ⟨p,A,w,_⟩:=h;have D:x.pr=B:=congrArg Prod.fst r;obtain ⟨a,b,e⟩:=bA A;unfold Yw;rw [Υ (by omega),D,e,w];rfl
theorem Hd:∀{r:List Sy} {ks:List Ttr},TrL g c r ks->r.length=ks.length/\∀(k:Nat) (m:Ttr),ks[k]? =V m->∃s,r[k]? =V s/\wm g c s m
 |[],[],_=>⟨rfl,λk m h=>by simp at h⟩
 |s::r,m::ks,h=>by
  unfold TrL at h;obtain ⟨a,b⟩:=Hd h.2;refine ⟨by rw [wc,wc,a],λk y w=> ?_⟩;cases k with
  |zero=>cases w;exact ⟨s,rfl,h.1⟩
  |succ k=>exact b k y w
 |[],_::_,h=>by unfold TrL at h;exact h.elim
 |_::_,[],h=>by unfold TrL at h;exact h.elim
theorem CX:∀l:List Ttr,l.length<=yX l
 |[]=>yv _
 |m::l=>by have:=CX l;rw [i9,kR,wc];omega
theorem He {v:Γ} {l:Sl} (hO:∀x∈T,YP g x) (hT:T.length<=1000000):∀(m:Ttr) {F:PH} {s:Sy} {i:Nat} {rest:List (Int×Int)},GV F v g->RL F l T->wm g c s m->(T.map Tmn.key).drop i=Uz m++rest->
  ν 59 #[nL v,l.v,U (i:Int)] F λr F'=>r=U ((i+yR m:Nat):Int)/\F.le F':=by
 refine Ttr.ind (λtk=> ?_) λpr A ih=> ?_
 ·intro F s i rest hg hl ht hk;obtain ⟨x,M,Q,_⟩:=At hk;have hi:=(N6.1 M).1;have el:=hl.len;have hv:=hg.size;have hp:x.pr= -1:=congrArg Prod.fst Q;refine UG ?_;unfold RR;refine (St.start F).newG λb3 G1 F1 R q3 _ h=>⟨λD=>absurd D (by omega),λ_=> ?_⟩;refine ⟨v,hv,ai (h.le _ _ q3),?_⟩;have E:=hl.le R;refine t6 E (by decide) (by omega) (by omega) λa O y B w C=> ?_;rw [N4,M] at B;cases B;refine ⟨O,Mem.len C,aN h.le w,?_⟩;refine h.runv (uf (hg.le R) C (hO x (vQ M))) λG2 F2 L h=>⟨_,rfl,λD=>(by cases D),λ_=> ?_⟩;refine t6 (E.le L) (by decide) (by omega) (by omega) λa O y B w C=> ?_;rw [N4,M] at B;cases B;obtain ⟨r,rfl,_⟩:=C;refine ⟨_,aE (aN h.le w) rfl,λ_=>⟨?_,aa R (aa L h.le)⟩,λD=>absurd (by rw [hp];decide) D⟩;rw [aC hi,kR];show U _=U ((i+(1+yX []):Nat):Int);rw [fw]
 ·intro F s i rest hg hl ht hk;obtain ⟨x,M,Q,X⟩:=At hk;have hi:=(N6.1 M).1;have el:=hl.len;have hv:=hg.size;have P:=hg;unfold wm at ht;obtain ⟨p,h1,_,_,a8⟩:=ht;obtain ⟨p0,p1,p2⟩:=bA h1;obtain ⟨tl,ta⟩:=Hd a8;have hp:x.pr=pr:=congrArg Prod.fst Q;have c2:A.length<=1000000:=by have h1:=congrArg List.length hk;have h2:=CX A;rw [W6,tT,eO,kR,ub] at h1;have h1:T.length - i=1+yX A+rest.length:=h1;omega
  obtain ⟨cs,n,tk,s0,ps,lv,f,rfl,hs⟩:=hg;have ep:=hs.p.len;refine UG ?_;unfold RR;refine (St.start F).newG λb3 G1 F1 R q3 _ h=>⟨λD=>absurd D (by omega),λ_=> ?_⟩;refine ⟨_,hv,ai (h.le _ _ q3),?_⟩;have E:=hl.le R;refine t6 E (by decide) (by omega) (by omega) λa O y B w C=> ?_;rw [N4,M] at B;cases B;refine ⟨O,Mem.len C,aN h.le w,?_⟩;refine h.runv (uf (P.le R) C (hO x (vQ M))) λG2 F2 L h=>⟨_,rfl,λD=>(by cases D),λ_=> ?_⟩;refine t6 (E.le L) (by decide) (by omega) (by omega) λa O y B w C=> ?_;rw [N4,M] at B;cases B;obtain ⟨r,rfl,_⟩:=C;refine ⟨_,aE (aN h.le w) rfl,λD=>absurd D (by rw [hp];omega),λ_=>⟨ps,ld (h.le _ _ (L _ _ q3)) rfl,?_⟩⟩;have a5:=aa R L;refine t6 (E.le L) (by decide) (by omega) (by omega) λc5 O y B w C=> ?_;rw [N4,M] at B;cases B;obtain ⟨r2,rfl,_⟩:=C;refine ⟨x.pr,aE (aN h.le w) rfl,?_⟩;refine t6 (hs.p.le a5) (by decide) (by omega) (by omega) λc4 O y B w C=> ?_;have b0:g.qa0[x.pr.toNat]? =V p:=by rw [hp];exact p2
  rw [b0] at B;cases B;obtain ⟨rr,n2,l9,rfl,a3,_⟩:=C;have b9:=a3.len;refine ⟨rr,aM (aN h.le w) (i:=2) rfl,?_⟩;rw [aC hi];refine gx (A8 · l b3 rr _) A.length (λj z F'=>∃G',G2.le G'/\z=((i+1+yX (A.take j):Nat):Int)/\(T.map Tmn.key).drop (i+1+yX (A.take j))=VZ (A.drop j)++rest/\St G' F' []) _ ⟨G2,au _,by rw [Am,fw],by rw [Am,fw];exact X,h⟩ ?_;rintro j z F3 N hj ⟨G3,l3,rfl,hd,h⟩ next;have W:=aa a5 l3;unfold A8;refine ⟨λH=> ?_,λb7=> ?_⟩
  ·have H:j<A.length:=by omega
   have hm:A[j]? =V A[j]:=N5 H;have a1:A[j]∈A:=U9 H;have a6:A.drop j=A[j]::A.drop (j+1):=Xi H;generalize A[j]=m at hm a1 a6;obtain ⟨sy,b2,a2⟩:=ta j m hm;have b1:A.take (j+1)=A.take j++[m]:=bo hm;rw [a6,gJ,xK] at hd;obtain ⟨y,B,b6,_⟩:=At hd;have c6:=(N6.1 B).1;have a0:=E.le (aa L l3);have J:i+1+yX (A.take j)+yR m=i+1+yX (A.take (j+1)):=by rw [b1,kS,i9,fw];omega
   refine ⟨_,rfl,ai (h.le _ _ (l3 _ _ (L _ _ q3))),?_⟩;refine h.runv (ih m a1 (P.le W) a0 a2 hd) λG4 F4 l4 h=>⟨_,rfl,λD=>absurd D (by omega),λ_=> ?_⟩;have b4:=aa W l4;have a9:=a0.le l4;refine ⟨_,hv,ai (h.le _ _ (l4 _ _ (l3 _ _ (L _ _ q3)))),?_⟩;refine t6 a9 (by decide) (by omega) (by omega) λb8 O y' a4 w C=> ?_;rw [N4,B] at a4;cases a4;refine ⟨O,Mem.len C,aN h.le w,?_⟩;refine t6 (a3.le (aa l3 l4)) (by decide) (by omega) (by omega) λc3 sc s' a7 K b5=> ?_;rw [N4,b2] at a7;cases a7;obtain rfl:sc=sy.arr:=b5;refine ⟨_,rfl,aN h.le K,?_⟩;refine h.runv (Ar (P.le b4) C (hO y (vQ B))) λG5 F5 l5 h=>⟨_,rfl,aN (aa l5 h.le) K,_,λF=>MT _ _ F,λD=> ?_,λ_=> ?_⟩
   ·rw [Rb a2 b6] at D;simp at D
   ·rw [aC H,J];refine next _ _ H ⟨G5,aa l3 (aa l4 l5),rfl,?_,h⟩;rw [<- J,<- XJ,hd,<- eO m,List.drop_left]
  ·have:j=A.length:=by omega
   subst this;unfold Ie;refine ⟨?_,aa W h.le⟩;rw [wy,kR];show U _=U ((i+(1+yX A):Nat):Int);rw [V8]
end
def lvs (T:List Tmn):List ο:=T.filterMap λx=>if x.pr<0 then V x.tx else I
theorem Au (a b:List Tmn):lvs (a++b)=lvs a++lvs b:=by unfold lvs;rw [List.filterMap_append]
theorem lH {T:List Tmn} {i:Nat} {x:Tmn} (g:T[i]? =V x):lvs (T.take (i+1))=lvs (T.take i)++if x.pr<0 then [x.tx] else []:=by
 rw [bo g,Au];congr 1;unfold lvs;split
 ·rw [List.filterMap_cons_some (b:=x.tx) (by rw [Χ ‹_›])];rfl
 ·rw [List.filterMap_cons_none (by rw [Υ ‹_›])];rfl
theorem Hf {a b:ο} {i j:Nat} (h:j<=a.size):(a++b).extract i j=a.extract i j:=by
 refine ByteArray.ext ?_;have g:a.data.size=a.size:=rfl;rw [ByteArray.data_extract,ByteArray.data_extract,ByteArray.data_append];refine Array.toList_inj.1 ?_;rw [Array.toList_extract,Array.toList_extract,List.extract_eq_take_drop,List.extract_eq_take_drop,Zj];by_cases hi:i<=a.size
 ·rw [List.drop_append_of_le_length (by rw [zN];omega),Xh (by rw [W6,zN];omega)]
 ·rw [show j - i=0 by omega,Am,Am]
theorem FG {a b:ο}:(a++b).extract a.size (a.size+b.size)=b:=by refine ByteArray.ext ?_;have h:a.data.size=a.size:=rfl;have g:b.data.size=b.size:=rfl;rw [ByteArray.data_extract,ByteArray.data_append];refine Array.toList_inj.1 ?_;rw [Array.toList_extract,List.extract_eq_take_drop,Zj,<- h,<- zN,List.drop_left,Zc,<- g,<- zN,wy]
structure WdI (L:List ByteArray) (tx:ByteArray) (ws:List (Nat×Nat)):Prop where
 len:ws.length=L.length
 wd:∀(j:Nat) (w:Nat×Nat),ws[j]? =V w->w.1<w.2/\w.2<=tx.size/\L[j]? =V (tx.extract w.1 w.2)
 ch:∀(j:Nat) (w w':Nat×Nat),ws[j]? =V w->ws[j+1]? =V w'->w.2<=w'.1
theorem WdI.nil (tx:ο):WdI [] tx []:=⟨rfl,λj w h=>by simp at h,λj w g h=>by simp at h⟩
theorem WdI.grow {L:List ο} {tx:ο} {g:List (Nat×Nat)} (h:WdI L tx g) (y:ο):WdI L (tx++y) g:=by refine ⟨h.len,λj w A=> ?_,h.ch⟩;obtain ⟨B,r,C⟩:=h.wd j w A;exact ⟨B,by rw [ByteArray.size_append];omega,by rw [Hf r];exact C⟩
theorem WdI.add {L:List ο} {tx:ο} {B:List (Nat×Nat)} (h:WdI L tx B) {s:ο} (J:0<s.size):WdI (L++[s]) (tx++s) (B++[(tx.size,tx.size+s.size)]):=by
 have D:=h.len;refine ⟨by rw [tT,tT,D];rfl,λj w r=> ?_,λj w F r g=> ?_⟩
 ·by_cases C:j<B.length
  ·rw [zR C] at r;obtain ⟨G,E,H⟩:=(h.grow s).wd j w r;exact ⟨G,E,by rw [zR (by omega)];exact H⟩
  ·have A:=(N6.1 r).1;rw [tT,Uc] at A;have:j=B.length:=by omega
   subst this;rw [UR (qX _),XL] at r;cases r;refine ⟨by show tx.size<tx.size+s.size;omega,by rw [ByteArray.size_append];exact qX _,?_⟩;rw [D,UR (qX _),XL,FG];rfl
 ·have A:=(N6.1 g).1;rw [tT,Uc] at A;rw [zR (by omega)] at r;by_cases C:j+1<B.length
  ·rw [zR C] at g;exact h.ch j w F r g
  ·rw [show j+1=B.length by omega,UR (qX _),XL] at g;cases g;exact (h.wd j w r).2.1
def XE (ws:List (Nat×Nat)) (j:Nat):Int×Int:=(((ws.getD j (0,0)).1:Int),((ws.getD j (0,0)).2:Int))
def VX (ws:List (Nat×Nat)) (e j:Nat):Int:=if j<ws.length then ((ws.getD j (0,0)).1:Int) else (e:Int)
theorem WdI.wds {L:List ο} {tx:ο} {g:List (Nat×Nat)} (h:WdI L tx g):Yt (XE g) (VX g tx.size) g.length:=by
 intro j B;have w:g[j]? =V g[j]:=N5 B;have e:g.getD j (0,0)=g[j]:=by rw [Q0,w];rfl
 obtain ⟨E,D,_⟩:=h.wd j _ w;unfold XE VX;rw [Χ B,e];refine ⟨rfl,by show ((g[j].1:Nat):Int)<(g[j].2:Nat);omega,?_⟩;show ((g[j].2:Nat):Int)<=_;split
 ·rename_i A;have r:g[j+1]? =V g[j+1]:=N5 A;have C:g.getD (j+1) (0,0)=g[j+1]:=by rw [Q0,r];rfl
  have:=h.ch j _ _ w r;rw [C];omega
 ·omega
theorem Rc (g:List (Nat×Nat)) (e j:Nat):0<=VX g e j:=by unfold VX;split<;>omega
section
variable {g:Gr} {c:Cf}
theorem CY:∀(l:List Ttr),(∀k∈l,∀(s:Sy) (a:Nat),wm g c s k->∀y∈wD a k,∃A,wm g c A y.1)->∀(r:List Sy) (a:Nat),TrL g c r l->∀y∈yO a l,∃A,wm g c A y.1
 |[],_,r,a,_,y,w=>by unfold yO at w;cases w
 |k::l,ih,[],a,h,y,w=>by unfold TrL at h;exact h.elim
 |k::l,ih,s::r,a,h,y,w=>by
  unfold TrL at h;rw [yO,vd] at w;rcases w with w|w
  ·exact ih k (by simp) s a h.1 y w
  ·exact CY l (λk B=>ih k (by simp [B])) r _ h.2 y w
theorem Av:∀(t:Ttr) (s:Sy) (a:Nat),wm g c s t->∀y∈wD a t,∃A,wm g c A y.1:=Ttr.ind (λD s a h y r=>by
  unfold wD at r;rw [vy] at r;subst r
  exact ⟨s,h⟩) λC w ih s a h y r=>by
 rw [rJ] at r;rcases tD.1 r with rfl|r
 ·exact ⟨s,h⟩
 ·unfold wm at h;obtain ⟨p,_,_,_,B⟩:=h;exact CY w ih _ _ B y r
theorem Aw (a:Nat) (m:Ttr) {T:List Tmn} (h:T.map Tmn.key=Uz m) {i:Nat} {x:Tmn} (A:T[i]? =V x):∃y,(wD a m)[i]? =V y/\x.key=kQ y.1:=by rw [<- wh a] at h;have:=congrArg (·[i]?) h;simp only [yc,A,Vz] at this;obtain ⟨y,r,w⟩:=Zd.1 this.symm;exact ⟨y,r,w.symm⟩
theorem Rd {s:Sy} {m:Ttr} {T:List Tmn} (C:T.map Tmn.key=Uz m) (J:wm g c s m) (E:∀x∈T,TmO x):∀x∈T,YP g x:=by
 intro x A;obtain ⟨i,hi⟩:=List.mem_iff_getElem?.1 A;obtain ⟨⟨y,a⟩,F,h⟩:=Aw 0 m C hi;obtain ⟨L,r⟩:=Av m s 0 J _ (vQ F);cases y with
 |lf w=>unfold wm at r;exact .inl ⟨congrArg Prod.fst h,by rw [show x.tk=w from congrArg Prod.snd h];exact r.2.1,by rw [show x.tk=w from congrArg Prod.snd h];exact r.2.2.1⟩
 |nd D K=>unfold wm at r;obtain ⟨p,H,_⟩:=r;obtain ⟨q0,q1,_⟩:=bA H;have e:x.pr=D:=congrArg Prod.fst h;obtain ⟨G,B⟩:=(E x A).inn (by omega);exact .inr ⟨by omega,by omega,congrArg Prod.snd h,G,B⟩
theorem gF {s:Sy} {m:Ttr} {T:List Tmn} (r:T.map Tmn.key=Uz m) (B:wm g c s m):∀i,i<=T.length->(lvs (T.take i)).length=VK ((wD 0 m).take i)
 |0,_=>by rw [Am,Am];rfl
 |i+1,h=>by
  have hi:T[i]? =V T[i]:=N5 (by omega);obtain ⟨y,A,w⟩:=Aw 0 m r hi;rw [lH hi,tT,gF r B i (by omega),bo A,ij,rI,Mz];congr 1;obtain ⟨G,C⟩:=Av m s 0 B _ (vQ A);obtain ⟨y,a⟩:=y;cases y with
  |lf H=>rw [Χ (by rw [show T[i].pr= -1 from congrArg Prod.fst w];decide)];rfl
  |nd D F=>unfold wm at C;obtain ⟨p,E,_⟩:=C;have:=(bA E).1;rw [Υ (by rw [show T[i].pr=D from congrArg Prod.fst w];omega)];rfl
end
instance:Mem (Nat×Nat) where
 n:=5
 rep _ x c:=∃(k:Int) (b:Bool) (s:Sl),c= #[U (x.1:Int),U (x.2:Int),U k,nS b,s.v]
 len h:=by obtain ⟨k,b,s,rfl⟩:=h;rfl
 le _ h:=h
 st h:=by obtain ⟨k,b,s,rfl⟩:=h;simp [ak,nE]
theorem TR:∃b z,SlT 87 140 5 b z:=⟨_,_,underlying87,qfu,qfA,rfl,by decide,by decide⟩
structure Spw where
 g:Gr
 cs:Sl
 n:Sl
 tk:Sl
 s:Sl
 p:Sl
 lv:Sl
 f:Sl
abbrev Spw.arr (w:Spw) (tx:ByteArray) (ws rs:Sl) (en st:Int):Γ:= #[w.cs.v,w.n.v,U w.g.fam.2,w.tk.v,w.s.v,w.p.v,U w.g.start,w.lv.v,w.f.v,pe tx,ws.v,rs.v,U en,U st]
abbrev Spw.gv (w:Spw):Γ:=w.g.arr w.cs w.n w.tk w.s w.p w.lv w.f
abbrev SB (bx:Nat) (w:Spw) (tx:ByteArray) (ws rs:Sl) (en st:Int) (As:List (Ψ)):List (Ψ):=pt bx (Y (w.arr tx ws rs en st) 135)::As
theorem Re {α h:Type} {F:PH} (L:(α->h->Ω)->α->h->Ω) {n O K:_} {r:Int} (Inv:Ψ) (G:Inv F) (hi: -1<=r/\r<n)
  (step:∀(x:α) (y:h) (i:Int) (F:PH) (N:α->h->Ω),-1<=i->i<n->Inv F->(∀A C g,0<=i->Inv g->N A C (i - 1) g)->L N x y i F):
  ∃(w:Nat->α->h->Ω) (m:Nat),w m O K r F/\∀m x y i F,w m x y i F->L (λa b c F=>∃B,B<m/\w B a b c F) x y i F:=by
 refine ⟨λm x y i g=>Inv g/\-1<=i/\i<n/\m=(i+1).toNat,(r+1).toNat,⟨G,hi.1,hi.2,rfl⟩,?_⟩;rintro m x y i g ⟨M,E,D,rfl⟩;exact step x y i g _ E D M λA C J P H=>⟨(i - 1+1).toNat,by omega,H,by omega,by omega,rfl⟩
section
variable {F G:PH} {w:Spw} {bx:Nat} {tx s:ο} {ws rs:Sl} {en st:Int} {As:List (Ψ)}
theorem qib (B:F.cell (ou bx 9 I)=V (pe tx)) (M:tx.size<=1000000000):ν 89 #[Pp bx] F λr A=>(∃n b,r=pk #[U n,nS b])/\A=F:=by
 refine qgi ?_;unfold UN;refine ⟨_,rfl,_,B,Re (λN x y i A=>Bi N (ou bx 0 I) _ x y i A) (n:=(tx.size:Int)) (λA=>A=F) rfl ?_ ?_⟩
 ·rw [aJ (by omega)];omega
 intro n o i A N L C e next;subst e;unfold Bi;have H:∀(K:Int) (J:Bool),0<=i->rn N (ou bx 0 I) i K J (λr D=>(∃n b,r=pk #[U n,nS b])/\D=A) A:=λK J g=>by unfold rn;rw [aJ (by omega)];exact next _ _ _ g rfl
 have E:0<=i->i.toNat<tx.size:=λh=>by omega
 exact ⟨λg=>⟨_,B,g,C,E g,_,rfl,λ_=>⟨λ_=>⟨_,B,g,C,E g,_,rfl,λ_=>H _ _ g,λ_=>⟨_,B,g,C,E g,_,rfl,H _ _ g⟩⟩,λ_=>H _ _ g⟩,λ_=>⟨⟨_,_,rfl⟩,rfl⟩⟩,λ_=>⟨⟨_,_,rfl⟩,rfl⟩⟩
theorem qQ {tok:Int} (h:St G F (SB bx w tx ws rs en st As)) (O:tx.size+s.size<=1000000000):
  ν 58 #[Pp bx,pe s,U tok] F λr B=>∃A c,r=nL c/\Mem.rep A ((tx.size,tx.size+s.size):Nat×Nat) c/\G.le A/\St A B (SB bx w (tx++s) ws rs en st As):=by
 refine qg2 ?_;unfold UF;refine h.new λE N h=> ?_;refine (qib (h.ld1 (i:=9) rfl) (by omega)).mono ?_;rintro _ F2 ⟨⟨n,o,rfl⟩,rfl⟩;have e:i64.wrap ((tx.size:Int)+(s.size:Int))=((tx.size+s.size:Nat):Int):=by rw [aJ (by omega)];omega
 refine ⟨_,_,rfl,_,rfl,_,h.ld1 (i:=9) rfl,_,h.ld1 (i:=9) rfl,?_⟩;dsimp only;rw [e];have K:∀{A B:PH} {C g:Nat},G.le A->St A B (pt C (Y #[U (tx.size:Int),U ((tx.size+s.size:Nat):Int),U n,nS o,nE (Sb g 1)] 140)::pt E (Y #[U 0,U 0,U 0,.bool mz,.slice I 0 0] 140)::SB bx w tx ws rs en st As)->vL (V (ou bx 0 I)) s E (V (Z C 0)) (λr B=>∃A c,r=nL c/\Mem.rep A ((tx.size,tx.size+s.size):Nat×Nat) c/\G.le A/\St A B (SB bx w (tx++s) ws rs en st As)) B:=λ{A B C g} l h=>by unfold vL;refine ⟨_,rfl,_,h.ld2 (i:=9) rfl,by omega,h.set2 (w':=w.arr (tx++s) ws rs en st) (vx rfl) rfl λH h=>⟨_,rfl,_,rfl,h.whole0,?_⟩⟩;exact h.put1 (w':= #[U (tx.size:Int),U ((tx.size+s.size:Nat):Int),U n,nS o,nE (Sb g 1)]) rfl rfl (by simp [ak,nE]) λJ h=>⟨_,rfl,h.whole1,A,_,rfl,⟨_,_,_,rfl⟩,l,h.tail.tail⟩
 refine ⟨h.newG λg M H D q _ h=>h.new λC J h=>h.put0 (w':= #[U (tx.size:Int),U ((tx.size+s.size:Nat):Int),U n,nS o,nE (Sb g 1)]) rfl rfl (by simp [ak,nE]) λL h=>K D h,h.new λC H h=>h.newG λg M J D q _ h=>h.put0 (w':= #[U (tx.size:Int),U ((tx.size+s.size:Nat):Int),U n,nS o,nE (Sb g 1)]) rfl rfl (by simp [ak,nE]) λL h=>K D h⟩
theorem km {l:Sl} {L:List ο} {b0:Ξ} (ht:RL G w.tk w.g.qa2) (hT:w.g.qa2.length<=256) (hl:RL G l L) (hL:∀x∈L,ByteArray.size x<=4) (c6:L.length<=3) (b8:tx.size<=900000000) (c7:rs.len<=300000000)
  (h:St G F (SB bx w tx ws rs en st (own rs 140 5 b0::As))):
  ν 57 #[Pp bx,l.v] F λr D=>r=pk #[]/\∃(C:PH) (y:ο) (A:Sl) (B:Ξ),G.le C/\y.size<=15/\A.len<=rs.len+3/\St C D (SB bx w (tx++y) ws A en st (own A 140 5 B::As)):=by
 have el:=hl.len;have et:=ht.len;refine qg1 ?_;unfold UE;refine bC (λN i D=>A7 N (V (ou bx 0 I)) l _ i D) L.length (λi D=>∃(C:PH) (y:ο) (A:Sl) (B:Ξ),G.le C/\y.size<=5*i/\A.len<=rs.len+i/\St C D (SB bx w (tx++y) ws A en st (own A 140 5 B::As))) ⟨G,.empty,rs,b0,au _,yv _,qX _,by rw [show tx++ByteArray.empty=tx from ByteArray.append_empty];exact h⟩ ?_;rintro i F1 N hi ⟨G1,y,E,H,l1,hy,b4,h⟩ next;unfold A7;refine ⟨λK=> ?_,λb6=>⟨rfl,G1,y,E,H,l1,by omega,by omega,h⟩⟩;have K:i<L.length:=by omega
 have hx:L[i]? =V L[i]:=N5 K;have b1:=hL _ (U9 K);generalize L[i]=x at hx b1;have j1:∀{C D:PH} {y':ο} {A:Sl} {B:Ξ},G1.le C->y'.size<=5*(i+1)->A.len<=rs.len+(i+1)->St C D (SB bx w (tx++y') ws A en st (own A 140 5 B::As))->vK N (V (ou bx 0 I)) l i (λr D=>r=pk #[]/\∃(C:PH) (y:ο) (A:Sl) (B:Ξ),G.le C/\y.size<=15/\A.len<=rs.len+3/\St C D (SB bx w (tx++y) ws A en st (own A 140 5 B::As))) D:=λ{C D y' A B} l2 a b h=>by unfold vK;rw [aC K];exact next _ K ⟨C,y',A,B,aa l1 l2,a,b,h⟩
 refine bC (λN2 t D=>A6 N N2 (V (ou bx 0 I)) l i _ t D) w.g.qa2.length (λ_ D=>∃C:PH,G1.le C/\St C D (SB bx w (tx++y) ws E en st (own E 140 5 H::As))) ⟨G1,au _,h⟩ ?_;rintro t F2 N2 b7 ⟨G2,l2,h⟩ Q;have a9:=aa l1 l2;unfold A6;refine ⟨_,rfl,w.tk,h.ld0 (i:=3) rfl,λJ=> ?_,λ_=>j1 l2 (by omega) (by omega) h⟩;have J:t<w.g.qa2.length:=by omega
 have n2:∀{C D:PH},G2.le C->St C D (SB bx w (tx++y) ws E en st (own E 140 5 H::As))->N2 (i64.wrap ((t:Int)+1)) D:=λl h=>by rw [aC J];exact Q _ J ⟨_,aa l2 l,h⟩
 have a5:∀{C D:PH},G2.le C->St C D (SB bx w (tx++y) ws E en st (own E 140 5 H::As))->rj N N2 (ou bx 0 I) l i t mz (λr D=>r=pk #[]/\∃(C:PH) (y:ο) (A:Sl) (B:Ξ),G.le C/\y.size<=15/\A.len<=rs.len+3/\St C D (SB bx w (tx++y) ws A en st (own A 140 5 B::As))) D:=λl h=>by unfold rj;exact ⟨λhn=>(by cases hn),λ_=>n2 l h⟩
 refine ⟨w.tk,h.ld0 (i:=3) rfl,?_⟩;have a3:=ht.le a9;have a7:=hl.le a9;refine t6 a3 (by decide) (by omega) (by omega) λc8 cc z hz M hc=> ?_;have X:=aN h.le M;obtain ⟨p9,n9,e9,_⟩:=id hc;refine ⟨z.cls,aM X (i:=1) (by rw [e9];rfl),λb9=> ?_,λ_=>a5 (au _) h⟩;refine ⟨w.tk,h.ld0 (i:=3) rfl,t6 a3 (by decide) (by omega) (by omega) λd2 c2 z2 b5 a1 a6=>⟨c2,Mem.len a6,aN h.le a1,?_⟩⟩;refine t6 a7 (by decide) (by omega) (by omega) λc9 c3 x3 a4 R b2=> ?_;rw [N4,hx] at a4;cases a4;obtain rfl:c3= #[pe x]:=b2;refine ⟨x,aE (aN h.le R) rfl,?_⟩;refine h.run (P:=λr _=>∃b,r=nS b) (gY a6 (by omega)) λr G3 F3 hr l3 h=> ?_;obtain ⟨b,rfl⟩:=hr;have a2:=aM (aN (aa l3 h.le) M) (i:=1) (v:=U z.cls) (by rw [e9];rfl);refine ⟨b,rfl,h.ld0 (i:=3) rfl,a2,h.ld0 (i:=3) rfl,?_⟩;cases b with
 |false=>exact a5 l3 h
 |true=>unfold rj;refine ⟨λ_=> ?_,λhn=>(by cases hn)⟩;refine ⟨E,h.ld0 (i:=11) rfl,?_⟩;refine t6 (a7.le l3) (by decide) (by omega) (by omega) λd0 c4 x4 O a0 b3=> ?_;rw [N4,hx] at O;cases O;obtain rfl:c4= #[pe x]:=b3;refine ⟨x,aE (aN h.le a0) rfl,?_⟩;refine (qQ h (by rw [ByteArray.size_append];omega)).mono ?_;rintro _ F4 ⟨G4,c5,rfl,W,l4,h⟩;obtain ⟨_,_,TV⟩:=TR;refine ⟨c5,rfl,h.ld0 (i:=11) rfl,Mem.len W,?_⟩;refine h.push1 TV (c:=c5) (Mem.len W) (Mem.st W) (by omega) λa8 G5 F5 l5 h d1=> ?_;refine h.set0 (w':=w.arr (tx++y++x) ws a8 en st) (vx rfl) rfl λF6 h=> ?_;refine ⟨_,h.ld0 (i:=9) rfl,by rw [ByteArray.size_append,ByteArray.size_append];show _+1<=_;omega,?_⟩;refine h.set0 (w':=w.arr (tx++y++x++ByteArray.mk #[10]) ws a8 en st) (vx rfl) rfl λF7 h=> ?_;rw [ByteArray.append_assoc,ByteArray.append_assoc] at h;exact j1 (aa l2 (aa l3 (aa l4 l5))) (by rw [ByteArray.size_append,ByteArray.size_append];show _+(_+1)<=_;omega) (by omega) h
end
theorem Rf {α g:Type} {F:PH} (L:(α->g->Ω)->α->g->Ω) (n:Nat) (Inv:Nat->α->g->Ψ) (E:α) (C:g) (J:Inv 0 E C F)
  (step:∀(k:Nat) (x:α) (y:g) (F:PH) (N:α->g->Ω),k<=n->Inv k x y F->(∀r A h,k<n->Inv (k+1) r A h->N r A ((k+1:Nat):Int) h)->L N x y (k:Int) F):
  ∃(w:Nat->α->g->Ω) (m:Nat),w m E C (0:Int) F/\∀m x y v F,w m x y v F->L (λa b c F=>∃D,D<m/\w D a b c F) x y v F:=by
 refine ⟨λm x y i h=>∃k:Nat,i=k/\k<=n/\m=n - k/\Inv k x y h,n,⟨0,rfl,by omega,rfl,J⟩,?_⟩;rintro m x y i h ⟨k,rfl,G,rfl,hi⟩;exact step k x y h _ G hi λr A K H B=>⟨n - (k+1),by omega,k+1,rfl,by omega,rfl,B⟩
theorem Rg {α:Type} {F:PH} (L:(α->Ω)->α->Ω) (i n:Nat) (Inv:Nat->α->Ψ) (B:α) (E:Inv 0 B F)
  (step:∀(k:Nat) (x:α) (F:PH) (N:α->Ω),k<=n->Inv k x F->(∀h g,k<n->Inv (k+1) h g->N h ((i+k+1:Nat):Int) g)->L N x ((i+k:Nat):Int) F):
  ∃(r:Nat->α->Ω) (m:Nat),r m B (i:Int) F/\∀m x v F,r m x v F->L (λy z F=>∃A,A<m/\r A y z F) x v F:=by
 refine ⟨λm x j g=>∃k:Nat,j=((i+k:Nat):Int)/\k<=n/\m=n - k/\Inv k x g,n,⟨0,rfl,by omega,rfl,E⟩,?_⟩;rintro m x j g ⟨k,rfl,C,rfl,hi⟩;exact step k x g _ C hi λh G D w=>⟨n - (k+1),by omega,k+1,rfl,by omega,rfl,w⟩
abbrev kJ (l:List Nod):Ξ:=l.flatMap λx=>x.arr.toList
theorem RL.nods {F:PH} {s:Sl} {l:List Nod}:RL F s l↔RdS F s 4 (kJ l):=RL.flat (f:=Nod.arr) (λ_ _ _=>Iff.rfl)
structure SpO (T:List Tmn) (m:Ttr) (tx:ByteArray) (ws:List (Nat×Nat)):Prop where
 wd:WdI (lvs T) tx ws
 len:ws.length=yr m
 sz:tx.size<=100000000
abbrev zd (tx:ByteArray) (ws:List (Nat×Nat)) (m:Ttr):Dtr:=xH (XE ws) (VX ws tx.size) 0 m
def YZ (F:PH) (T:List Tmn) (m:Ttr) (r:ξ) (F':PH):Prop:=∃(tx:ο) (p:Γ) (t:Sl) (ws:List (Nat×Nat)),r=pk #[pe tx,nL p,t.v]/\p.size=4/\(∀x∈p.toList,ak x)/\SpO T m tx ws/\RL F' t (vD (zd tx ws m))/\F.le F'
section
variable {F G:PH} {w:Spw} {bx:Nat} {ws:List (Nat×Nat)} {g:Gr} {c:Cf} {T:List Tmn} {m:Ttr} {tx:ο} {wl:Sl}
theorem Rh {e j:Nat} {x:Nat×Nat} (h:ws[j]? =V x):VX ws e j=(x.1:Int):=by unfold VX;rw [Χ (N6.1 h).1,Q0,h];rfl
theorem Ax {j:Nat} {x:Nat×Nat} (h:ws[j]? =V x):XE ws j=((x.1:Int),(x.2:Int)):=by unfold XE;rw [Q0,h];rfl
theorem yd {K:Sl} {st:Int} {e k:Nat} (C:RL F wl ws):ν 60 #[nL #[wl.v,K.v,U (e:Int),U st],U (k:Int)] F λr L=>r=U (VX ws e k)/\F.le L:=by
 have Q:=C.len;refine qg3 ?_;unfold UH;refine (St.start F).newG λX G1 N B q2 _ h=> ?_;have q:=h.le _ _ q2;have E:=aa B h.le;refine ⟨wl,ld q rfl,λJ=>⟨wl,ld q rfl,?_⟩,λH=>⟨_,ld q (i:=2) rfl,?_,E⟩⟩
 ·refine t6 (C.le B) (by decide) (by omega) (by omega) λa O x D A M=> ?_;rw [N4] at D;obtain ⟨P,W,R,rfl⟩:=M;exact ⟨_,aE (aN h.le A) rfl,by rw [Rh D],E⟩
 ·unfold VX;rw [Υ (by omega)]
theorem LY {i:Nat} {rest:List (Int×Int)} (h:(T.map Tmn.key).drop i=Uz m++rest):((T.drop i).take (yR m)).map Tmn.key=Uz m:=by rw [List.map_take,List.map_drop,h,<- eO m,List.take_left]
theorem LZ {s:Sy} {i:Nat} {rest:List (Int×Int)} (h:(T.map Tmn.key).drop i=Uz m++rest) (A:wm g c s m):(lvs ((T.drop i).take (yR m))).length=yr m:=by have r:=LY h;have B:=congrArg List.length r;rw [ub,eO] at B;have:=gF r A (yR m) (by omega);rw [List.take_take,Nat.min_self] at this;rw [this,show yR m=(wD 0 m).length from rfl,wy,wg]
theorem qic {vg:Γ} {n tl rl:Sl} {b3 b4 b7 K:Nat} {st:Int} {s:Sy} {R:VR} {z7:Γ} {As:List (Ψ)} (q3:G b3=V (Y vg 39)) (hg:GV G vg g) (q4:G b4=V (Y #[n.v,tl.v] 94)) (hn:RL G n T) (a3:G K=V (Y (w.arr tx wl rl (tx.size:Int) st) 135)) (hw:RL G wl ws)
  (hk:T.map Tmn.key=Uz m) (a8:wm g c s m) (ho:∀x∈T,YP g x) (hT:T.length<=1000000) (g6:ws.length=yr m) (h:St G F (pt b7 (Y z7 89)::As)) (d4:z7.size=4)
  (hR:∀B C t,G.le B->RL B t (vD (zd tx ws m))->St B C As->R (pk #[pe tx,nL #[wl.v,rl.v,U (tx.size:Int),U st],t.v]) C):
  ∃(I1:Nat->Sl->Int->Ω) (m1:Nat),I1 m1 pi (0:Int) (0:Int) F/\∀m1 o k i F,I1 m1 o k i F->vH (λy0 y1 y2 F=>∃m',m'<m1/\I1 m' y0 y1 y2 F) b3 b4 b7 K R o k i F:=by
 have en:=hn.len;have ew:=hw.len;have e7:T.length=yR m:=by have:=congrArg List.length hk;rwa [ub,eO] at this
 have d3:vD (zd tx ws m)=(wD 0 m).map λx=>(xH (XE ws) (VX ws tx.size) x.2 x.1).root:=IJ _ _ m 0;have f5:∀i,i<=T.length->(lvs (T.take i)).length<=yr m:=λi hi=>by rw [gF hk a8 i hi,<- wg m 0];have:=ij ((wD 0 m).take i) ((wD 0 m).drop i);rw [WI] at this;omega
 have h:=(h.push (A:=own pi 47 4 (kJ [])) (H:=λ_=>I) (.inl ⟨rfl,rfl⟩) (λb hb=>absurd rfl hb) (λb o hb=>by cases hb) (au _));refine Rf (λN x y v F=>vH N b3 b4 b7 K _ x y v F) T.length (λi o k C=>∃B:PH,G.le B/\k=((lvs (T.take i)).length:Int)/\St B C (own o 47 4 (kJ ((vD (zd tx ws m)).take i))::pt b7 (Y z7 89)::As)) pi 0 ⟨G,au _,rfl,h⟩ ?_;rintro i o _ F1 N hi ⟨G1,l1,rfl,h⟩ next;unfold vH;refine ⟨n,ld (h.le _ _ (l1 _ _ q4)) rfl,λa5=> ?_,λg3=> ?_⟩
 ·have a5:i<T.length:=by omega
  have ol:=(h.ownAt (i:=0) rfl).1.rd.len;have g5:o.len<=1000000:=by
   have h1:(kJ ((vD (zd tx ws m)).take i)).length=((vD (zd tx ws m)).take i).length*4:=by
    generalize (vD (zd tx ws m)).take i=l;induction l with
    |nil=>rfl
    |cons x l ih=>rw [wc,Wo,<- ih];show (x.arr.toList++kJ l).length=_;rw [tT,XK];rfl
   rw [h1] at ol;have:=List.length_take_le i (vD (zd tx ws m));omega
  have hx:T[i]? =V T[i]:=N5 a5;generalize T[i]=x at hx;obtain ⟨⟨ym,a⟩,hy,P⟩:=Aw 0 m hk hx;have a4:a=(lvs (T.take i)).length:=by have:=Sa m 0 i _ hy;rw [gF hk a8 i hi];omega
  obtain ⟨sy,a2⟩:=Av m s 0 a8 _ (vQ hy);have b5:(vD (zd tx ws m))[i]? =V (xH (XE ws) (VX ws tx.size) a ym).root:=by rw [d3,yc,hy];rfl
  have b6:(vD (zd tx ws m)).take (i+1)=(vD (zd tx ws m)).take i++[(xH (XE ws) (VX ws tx.size) a ym).root]:=bo b5;have a7:=lH hx;have g4:a<=1000000:=by have h1:(lvs (T.take i)).length<=(T.take i).length:=List.length_filterMap_le _ _;have:=List.length_take_le i T;omega
  have j4:∀{B C:PH} {J:Nat} {k':Int} {y:Nod},G1.le B->(xH (XE ws) (VX ws tx.size) a ym).root=y->k'=((lvs (T.take (i+1))).length:Int)->St B C (pt J (Y y.arr 47)::own o 47 4 (kJ ((vD (zd tx ws m)).take i))::pt b7 (Y z7 89)::As)->vF N b3 b4 b7 K o i J k' R C:=λ{B C J k' y} l e e2 h=>by unfold vF;obtain ⟨_,_,TV⟩:=qcY;refine ⟨y.arr,rfl,h.whole0,rfl,?_⟩;refine h.push1 TV (c:=y.arr) rfl (by simp [ak]) (by omega) λo' G2 F2 l2 h _=> ?_;unfold Ic;rw [aC a5,e2];refine next _ _ _ a5 ⟨G2,aa l1 (aa l l2),rfl,?_⟩;rw [b6,e];show St G2 F2 (own o' 47 4 (List.flatMap (λx:Nod=>x.arr.toList) (_++[y]))::_);rw [XT];simpa using h.tail
  have c7:=hn.le l1;refine ⟨n,ld (h.le _ _ (l1 _ _ q4)) rfl,?_⟩;refine t6 c7 (by decide) (by omega) (by omega) λf6 cc x' W c2 hc=> ?_;rw [N4,hx] at W;cases W;obtain ⟨r,rfl,_⟩:=id hc;refine ⟨x.pr,aE (aN h.le c2) rfl,n,ld (h.le _ _ (l1 _ _ q4)) rfl,?_⟩;refine t6 c7 (by decide) (by omega) (by omega) λg2 g7 x' W b9 f1=> ?_;rw [N4,hx] at W;cases W;obtain ⟨r2,rfl,_⟩:=f1;refine ⟨x.tk,aM (aN h.le b9) (i:=1) rfl,?_⟩;refine h.new λJ F2 h=>h.put0 (w':= #[U x.pr,U x.tk,U 0,U 0]) rfl rfl (by simp [ak]) λF3 h=> ?_;refine ⟨x.pr,h.ld0 (i:=0) rfl,λc6=> ?_,λe3=> ?_⟩
  ·
   rw [Χ c6] at a7;have ek:(lvs (T.take (i+1))).length=a+1:=by rw [a7,tT,<- a4];rfl
   have ha:a<ws.length:=by have:=f5 (i+1) (by omega);omega
   have a6:ws[a]? =V ws[a]:=N5 ha;generalize ws[a]=u at a6;have e0:∃tk,ym=.lf tk/\x.pr= -1/\x.tk=tk:=by
    cases ym with
    |lf tk=>exact ⟨tk,rfl,congrArg Prod.fst P,congrArg Prod.snd P⟩
    |nd L ks=>unfold wm at a2;obtain ⟨p,p1,_⟩:=a2;have:=(bA p1).1;have e:x.pr=L:=congrArg Prod.fst P;omega
   obtain ⟨tk,rfl,e1,e2⟩:=e0;have a1:∀{B C:PH},G1.le B->B.le C->C.cell (ou K 10 I)=V wl.v:=λl l'=>ld (l' _ _ (l _ _ (l1 _ _ a3))) (i:=10) rfl;rw [<- a4];refine ⟨wl,a1 (au _) h.le,?_⟩;refine t6 (hw.le l1) (by decide) (by omega) (by omega) λg1 c3 u' X b0 e9=> ?_;rw [N4,a6] at X;cases X;obtain ⟨k1,k2,k3,rfl⟩:=e9;refine ⟨_,aE (aN h.le b0) rfl,?_⟩;refine h.set0 (w':= #[U x.pr,U x.tk,U (u.1:Int),U 0]) (vx rfl) rfl λF4 h=> ?_;refine ⟨wl,a1 (au _) h.le,?_⟩;refine t6 (hw.le l1) (by decide) (by omega) (by omega) λf9 c4 u' X b8 f3=> ?_;rw [N4,a6] at X;cases X;obtain ⟨k4,k5,k6,rfl⟩:=f3;refine ⟨_,aM (aN h.le b8) (i:=1) rfl,?_⟩;refine h.set0 (w':= #[U x.pr,U x.tk,U (u.1:Int),U (u.2:Int)]) (vx rfl) rfl λF5 h=> ?_;refine j4 (y:=⟨x.pr,x.tk,u.1,u.2⟩) (au _) ?_ ?_ h
   ·unfold xH;show (⟨-1,tk,_,_⟩:Nod)=_;rw [Ax a6,e1,e2]
   ·rw [aC (n:=1000001) (by omega) (by omega),ek]
  ·
   rw [Υ e3,yn] at a7;have f4:∃L ks,ym=.nd L ks/\x.pr=L/\x.tk= -1:=by
    cases ym with
    |lf tk=>have e:x.pr= -1:=congrArg Prod.fst P;omega
    |nd L ks=>exact ⟨L,ks,rfl,congrArg Prod.fst P,congrArg Prod.snd P⟩
   obtain ⟨L,ks,rfl,e1,e2⟩:=f4;have a0:∃rest,(T.map Tmn.key).drop i=Uz (.nd L ks)++rest:=by obtain ⟨b,d,e,hb⟩:=Gc m 0 i _ hy;refine ⟨d.map λx=>kQ x.1,?_⟩;rw [hk,<- wh 0 m,e,yT,yT,<- hb,<- ub (f:=λx:Ttr×Nat=>kQ x.1),xK,List.drop_left,wh]
   obtain ⟨rest,a0⟩:=a0;have c9:=LZ a0 a2;have g8:i+yR (.nd L ks)<=T.length:=by have:=congrArg List.length a0;rw [W6,ub,tT,eO] at this;have:=kR (.nd L ks);omega
   rw [<- a4];generalize hz:yR (.nd L ks)=z at*;refine Rg (λN2 x v F=>A3 N N2 b3 b4 b7 K o a i J R x v F) i z (λd q C=>∃B:PH,G1.le B/\q=((a+(lvs ((T.drop i).take d)).length:Nat):Int)/\St B C (pt J (Y #[U x.pr,U x.tk,U 0,U 0] 47)::own o 47 4 (kJ ((vD (zd tx ws m)).take i))::pt b7 (Y z7 89)::As)) (a:Int) ⟨G1,au _,rfl,h⟩ ?_;rintro d _ F4 N2 hd ⟨G2,l2,rfl,h⟩ Q;have O:=aa l1 l2;unfold A3;refine ⟨vg,hg.size,ai (h.le _ _ (O _ _ q3)),n,ld (h.le _ _ (O _ _ q4)) rfl,?_⟩;refine h.runv (He ho hT _ (hg.le O) (hn.le O) a2 a0) λG3 F5 l3 h=>⟨_,rfl,λD=> ?_,λc8=> ?_⟩
   ·rw [hz] at D;have D:d<z:=by omega
    have M:=aa O l3;refine ⟨n,ld (h.le _ _ (M _ _ q4)) rfl,?_⟩;refine t6 (hn.le M) (by decide) (by omega) (by omega) λf7 c5 x5 d1 b1 e4=> ?_;rw [N4] at d1;obtain ⟨r5,rfl,_⟩:=e4;have a9:(T.drop i)[d]? =V x5:=by rw [List.getElem?_drop];exact d1
    have e5:=congrArg List.length (lH a9);rw [tT] at e5;have g9:(lvs ((T.drop i).take d)).length<=T.length:=by unfold lvs;refine Wz (List.length_filterMap_le _ _) ?_;have:=List.length_take_le' d (T.drop i);rw [W6] at this;omega
    refine ⟨x5.pr,aE (aN h.le b1) rfl,λb2=> ?_,λb2=> ?_⟩
    ·unfold vG;rw [Χ b2] at e5;have e6:i64.wrap (((a+(lvs ((T.drop i).take d)).length:Nat):Int)+1)=((a+(lvs ((T.drop i).take (d+1))).length:Nat):Int):=by rw [aJ (by omega),e5,Uc];omega
     rw [e6,aC (n:=1000000) (by omega) (by omega)];exact Q _ _ D ⟨G3,aa l2 l3,rfl,h⟩
    ·unfold vG;rw [Υ b2] at e5;rw [aC (n:=1000000) (by omega) (by omega)];refine Q _ _ D ⟨G3,aa l2 l3,?_,h⟩;rw [e5];rfl
   ·rw [hz] at c8;have:d=z:=by omega
    subst this;rw [c9];have M:=aa O l3;have E:=h.le _ _ (M _ _ a3);unfold Id;refine ⟨#[wl.v,rl.v,U (tx.size:Int),U st],rfl,fX E rfl,?_⟩;refine h.runv (yd (hw.le M)) λG4 F6 l4 h=>⟨_,rfl,?_⟩;refine h.set0 (w':= #[U x.pr,U x.tk,U (VX ws tx.size a),U 0]) (vx rfl) rfl λF7 h=> ?_;have d0:=aa M l4;refine ⟨#[wl.v,rl.v,U (tx.size:Int),U st],rfl,fX (h.le _ _ (d0 _ _ a3)) rfl,?_⟩;refine h.runv (yd (hw.le d0)) λG5 F8 l5 h=>⟨_,rfl,?_⟩;refine h.set0 (w':= #[U x.pr,U x.tk,U (VX ws tx.size a),U (VX ws tx.size (a+yr (.nd L ks)))]) (vx rfl) rfl λF9 h=> ?_;refine j4 (y:=⟨x.pr,x.tk,_,_⟩) (aa l2 (aa l3 (aa l4 l5))) ?_ ?_ h
    ·unfold xH;show (⟨L,-1,_,_⟩:Nod)=_;rw [e1,e2];rfl
    ·rw [a7,a4]
 ·have:i=T.length:=by omega
  subst this;have d2:(vD (zd tx ws m)).take T.length=vD (zd tx ws m):=by refine zc ?_;rw [d3,ub,e7];exact qX _
  rw [d2] at h;have E:=λ{C:PH} (l:G1.le C)=>l _ _ (l1 _ _ a3);unfold Ib;refine ⟨tx,ld (E h.le) (i:=9) rfl,#[wl.v,rl.v,U (tx.size:Int),U st],rfl,fX (E h.le) rfl,?_⟩;refine h.put1 (w':= #[wl.v,rl.v,U (tx.size:Int),U st]) rfl d4 (by simp [ak,nE]) λF2 h=>⟨_,rfl,h.whole1,?_⟩;obtain ⟨G2,l2,e8,h⟩:=h.pinO;exact hR G2 F2 o (aa l1 l2) (RL.nods.2 e8) h.tail
end
theorem TS {B E A r C g D h w:ξ}:wr (#[tS I 0 0,.slice I 0 0,U 0,.slice I 0 0,.slice I 0 0,.slice I 0 0,U 0,.slice I 0 0,.slice I 0 0,.string ⟨#[]⟩,tS I 0 0,.slice I 0 0,U 0,U 0]:Γ) 0 (#[B,E,A,r,C,g,D,h,w]:Γ).toList= #[B,E,A,r,C,g,D,h,w,.string .empty,tS I 0 0,.slice I 0 0,U 0,U 0]:=by kernel_rfl
section
variable {F G:PH} {g:Gr} {c:Int} {T:List Tmn} {m:Ttr} {tl:List ο}
theorem Hg {G F:PH} {As:List (Ψ)} {o:Sl} {e i:Nat} {vs:List Γ} {w:List (Nat×Nat)} (A:bS G w vs) (h:St G F As) (hi:As[i]? =V (own o e 5 (tZ vs))):o.len=w.length:=by have r:=(h.ownAt hi).1.rd.len;rw [A.cat_len] at r;have r:w.length*5=o.len*5:=r;omega
def ZH (G0:PH) (b7 b22:Nat) (w:Spw) (T:List Tmn) (i:Nat) (o:Sl) (F:PH):Prop:=
 ∃(G:PH) (tx:ο) (wl rl:Sl) (ws:List (Nat×Nat)) (vs:List Γ) (rv is:Ξ),G0.le G/\WdI (lvs (T.take i)) tx ws/\tx.size<=1016*i/\rl.len<=3*i/\is.length=ws.length/\bS G ws vs/\
  St G F (SB b22 w tx wl rl 0 0 [own rl 140 5 rv,own wl 140 5 (tZ vs),own o 3 1 is,pt b7 (Y #[tS I 0 0,.slice I 0 0,U 0,U 0] 89)])
theorem Ay {w:Spw} {s:Sy} {n t:Sl} {b3 b4 b7 K:Nat} {F0:PH} {o:Sl} (lF:F0.le G) (E:GS G w.g w.cs w.n w.tk w.s w.p w.lv w.f) (P:w.g.qa2.length<=256) (q3:G b3=V (Y w.gv 39)) (q4:G b4=V (Y #[n.v,t.v] 94)) (hn:RL G n T) (ht:RL G t tl)
  (N:T.map Tmn.key=Uz m) (C:wm w.g (wo c) s m) (a4:yR m<=44537) (W:∀x∈T,TmO x) (t3:tl.length<=3) (t4:∀x∈tl,ByteArray.size x<=4) (hI:ZH G b7 K w T T.length o F):A4 b3 b4 b7 K (YZ F0 T m) F:=by
 obtain ⟨G1,tx,wl,rl,ws,vs,rv,is,M,r,a3,a2,a1,hr,h⟩:=hI;have a0:T.length=yR m:=by have:=congrArg List.length N;rwa [ub,eO] at this
 rw [wy] at r;have L:ws.length=yr m:=by have:=gF N C T.length (qX _);rw [wy] at this;rw [r.len,this,a0,show yR m=(wD 0 m).length from rfl,wy,wg]
 unfold A4;refine ⟨t,ld (h.le _ _ (M _ _ q4)) (i:=1) rfl,?_⟩;refine (km (E.t.le M) P (ht.le M) t4 t3 (by omega) (by omega) h).mono ?_;rintro _ F2 ⟨rfl,G2,y,J,a5,l2,hy,_,h⟩;have B:(tx++y).size<=100000000:=by rw [ByteArray.size_append];omega
 have r:=r.grow y;generalize tx++y=D at r h B;refine ⟨rfl,D,h.ld0 (i:=9) rfl,?_⟩;refine h.set0 (w':=w.arr D wl J (D.size:Int) 0) (vx rfl) rfl λF3 h=> ?_;refine h.set0 (w':=w.arr D wl J (D.size:Int) (-1)) (vx rfl) rfl λF4 h=> ?_;obtain ⟨G3,l3,⟨H,hA,hH⟩,h⟩:=h.pin;have X:=hH _ _ hA;obtain ⟨G4,Q,O,h⟩:=h.tail.pinO;have A:=aa M (aa l2 (aa l3 Q));refine qic (As:=[]) (A _ _ q3) ⟨_,_,_,_,_,_,_,rfl,E.le A⟩ (A _ _ q4) (hn.le A) (Q _ _ X) ⟨vs,hr.le (aa l2 (aa l3 Q)),O⟩ N C (Rd N C W) (by omega) L h.tail rfl ?_;intro G' F' tt l' R h;exact ⟨D,_,tt,ws,rfl,rfl,by simp [ak,nE],⟨r,L,B⟩,R.le h.le,aa lF (aa A (aa l' h.le))⟩
theorem ox {v vt:Γ} {s:Sy} {l:Sl} {N:Δ} (hg:GV F v g) (hk:OkG g) (hm:TmV F g c s vt T tl m) (hl:RdS F l 1 (N.map vB)):ν 28 #[nL v,nL vt,l.v] F (YZ F T m):=by
 obtain ⟨⟨n,t,rfl,hn,ht⟩,b5,c4,c5,a5,t3,t4⟩:=hm;obtain ⟨o1,M,o3,o4⟩:=dm hk;have hv:=hg.size;have e8:=hg;obtain ⟨cs,nn,tk,ss,ps,lv,f,rfl,hs⟩:=hg;have f4:T.length=yR m:=by have:=congrArg List.length b5;rwa [ub,eO] at this
 have en:=hn.len;have e0:=hl.len;rw [ub,xB] at e0;refine qgY ?_;unfold UB;refine (St.start F).newG λb3 G1 F1 l1 q3 _ h=>h.newG λb4 G2 F2 l2 q4 _ h=>h.new λX F3 h=> ?_;have K:=aa l1 l2;refine ⟨_,hv,ai (h.le _ _ (l2 _ _ q3)),hv,?_⟩;have h:=(((h.push (A:=own pi 3 1 []) (H:=λ_=>I) (.inl ⟨rfl,rfl⟩) (λb E=>absurd rfl E) (λb o E=>by cases E) (au _)).push (A:=own pi 140 5 (tZ [])) (H:=λ_=>I) (.inl ⟨rfl,rfl⟩) (λb E=>absurd rfl E) (λb o E=>by cases E) (au _)).push (A:=own pi 140 5 []) (H:=λ_=>I) (.inl ⟨rfl,rfl⟩) (λb E=>absurd rfl E) (λb o E=>by cases E) (au _));refine h.new λC F4 h=> ?_;generalize hw:(⟨g,cs,nn,tk,ss,ps,lv,f⟩:Spw)=w;have c8:wr (#[tS I 0 0,.slice I 0 0,U 0,.slice I 0 0,.slice I 0 0,.slice I 0 0,U 0,.slice I 0 0,.slice I 0 0,.string ⟨#[]⟩,tS I 0 0,.slice I 0 0,U 0,U 0]:Γ) 0 (g.arr cs nn tk ss ps lv f).toList=w.arr .empty pi pi 0 0:=by rw [<- hw];exact TS
 rw [c8] at h;have b8:GS F w.g w.cs w.n w.tk w.s w.p w.lv w.f:=by rw [<- hw];exact hs
 have a6:w.g.qa2.length<=256:=by rw [<- hw];exact o3
 have b1:wm w.g (wo c) s m:=by rw [<- hw];exact c4
 have d1:G2 b3=V (Y w.gv 39):=by rw [<- hw];exact l2 _ _ q3
 clear hw;refine gx (λN3 x v F=>A5 N3 l b3 b4 X C _ x v F) T.length (λi o R=>ZH G2 X C w T i o R) pi ⟨G2,.empty,pi,pi,[],[],[],[],au _,WdI.nil _,yv _,yv _,rfl,.nil,h⟩ ?_;rintro i o F5 N3 hi hI next;unfold A5;have d0:=hI;obtain ⟨G3,tx,wl,rl,ws,vs,rv,is,l3,J,e6,g1,a2,hr,h⟩:=hI;have b6:=aa K l3;refine ⟨n,ld (h.le _ _ (l3 _ _ q4)) rfl,λW=> ?_,λe5=> ?_⟩
 ·have W:i<T.length:=by omega
  have hx:T[i]? =V T[i]:=N5 W;generalize T[i]=x at hx;have Q:=a5 x (vQ hx);have a1:=lH hx;refine ⟨n,ld (h.le _ _ (l3 _ _ q4)) rfl,?_⟩;refine t6 (hn.le b6) (by decide) (by omega) (by omega) λf6 cc x' a7 a4 hc=>⟨cc,Mem.len hc,aN h.le a4,?_⟩;rw [N4,hx] at a7;cases a7;obtain ⟨r,rfl,d4⟩:=id hc;refine h.var (Mem.st hc) (λf5 G4 F6 l4 P h=> ?_) rfl rfl;have j7:∀{R:PH} {o':Sl},ZH G2 X C w T (i+1) o' R->nC N3 l b3 b4 X C i o' (YZ F T m) R:=λ{R o'} hI=>by unfold nC;rw [aC W];exact next _ _ W hI
  refine ⟨x.pr,ld (h.le _ _ P) rfl,λe3=> ?_,λe1=> ?_⟩
  ·refine j7 ⟨G4,tx,wl,rl,ws,vs,rv,is,aa l3 l4,?_,by omega,by omega,a2,hr.le l4,h⟩;rw [a1,Υ (by omega),yn];exact J
  ·rw [Χ (by omega)] at a1;refine ⟨r,ld (h.le _ _ P) (i:=3) rfl,?_⟩;have d2:=aa b6 l4;refine (km ((b8.le d2).t) a6 (d4.le l4) Q.rs Q.rl (by omega) (by omega) h).mono ?_;rintro _ F7 ⟨rfl,G5,y,B,a0,l5,hy,e4,h⟩;have c7:(tx++y).size=tx.size+y.size:=ByteArray.size_append;have J:=J.grow y;generalize tx++y=tz at J h c7;have f7:=Q.tl;refine ⟨rfl,wl,h.ld0 (i:=10) rfl,x.tx,ld (h.le _ _ (l5 _ _ P)) (i:=2) rfl,x.tk,ld (h.le _ _ (l5 _ _ P)) (i:=1) rfl,?_⟩;refine (qQ h (by omega)).mono ?_;rintro _ F8 ⟨G6,c6,rfl,O,l6,h⟩;obtain ⟨_,_,TV⟩:=TR;have a3:=aa l5 l6;have b9:=hr.le (aa l4 a3);have e7:=Hg b9 h (i:=2) rfl;have e2:ws.length<=i:=by have h1:=J.len;have h2:(lvs (T.take i)).length<=(T.take i).length:=List.length_filterMap_le _ _;have:=List.length_take_le i T;omega
   refine ⟨c6,rfl,h.ld0 (i:=10) rfl,Mem.len O,?_⟩;refine h.push2 TV (c:=c6) (Mem.len O) (Mem.st O) (by omega) λD G7 F9 l7 h _=> ?_;refine h.set0 (w':=w.arr (tz++x.tx) D B 0 0) (vx rfl) rfl λf1 h=> ?_;have f3:=(h.ownAt (i:=3) rfl).1.rd.len;refine h.push3 sG (c:= #[U (i:Int)]) rfl (by simp [ak]) (by omega) λM G8 a9 l8 h e9=> ?_;have d3:bS G8 (ws++[(tz.size,tz.size+x.tx.size)]) (vs++[c6]):=(b9.le (aa l7 l8)).append (.cons (Mem.le (aa l7 l8) O) .nil);have L:=J.add (Q.tp (by omega));rw [<- a1] at L;have c3:(tz++x.tx).size=tz.size+x.tx.size:=ByteArray.size_append;generalize tz++x.tx=tu at L h c3;have c2:=aa l3 (aa l4 (aa a3 (aa l7 l8)));have h:St G8 a9 (SB C w tu D B 0 0 [own B 140 5 a0,own D 140 5 (tZ (vs++[c6])),own M 3 1 (is++[U (i:Int)]),pt X (Y #[tS I 0 0,.slice I 0 0,U 0,U 0] 89)]):=by rw [ba,cI];exact h
   have fin:∀{R:PH} (q:ο),q.size=1->St G8 R (SB C w (tu++q) D B 0 0 [own B 140 5 a0,own D 140 5 (tZ (vs++[c6])),own M 3 1 (is++[U (i:Int)]),pt X (Y #[tS I 0 0,.slice I 0 0,U 0,U 0] 89)])->nC N3 l b3 b4 X C i M (YZ F T m) R:=λ{R} q hq h=>by
    refine j7 ⟨G8,tu++q,D,B,_,_,a0,_,c2,L.grow q,?_,by omega,?_,d3,h⟩
    ·rw [ByteArray.size_append];omega
    ·rw [tT,tT,a2];rfl
   have j8:∀bb:Bool,vI N3 l b3 b4 X C M i bb (YZ F T m) a9:=λbb=>by
    unfold vI;refine ⟨λ_=>⟨tu,h.ld0 (i:=9) rfl,by show _+1<=_;omega,?_⟩,λ_=>⟨tu,h.ld0 (i:=9) rfl,by show _+1<=_;omega,?_⟩⟩
    ·exact h.set0 (w':=w.arr (tu++ByteArray.mk #[10]) D B 0 0) (vx rfl) rfl λc9 h=>fin _ rfl h
    ·exact h.set0 (w':=w.arr (tu++ByteArray.mk #[32]) D B 0 0) (vx rfl) rfl λc9 h=>fin _ rfl h
   refine ⟨λg2=> ?_,λ_=>j8 _⟩;have f9:1<=M.len:=by omega
   rw [aJ (by omega)];have a8:M.len - 1<N.length:=by omega
   obtain ⟨b0,o0,E,_⟩:=hl.cells (by omega);have b2:=(hl.le (aa K (aa c2 h.le))).cell E (i:=M.len - 1) (by rw [ub];exact a8);rw [Yl] at b2;refine ⟨_,E,by omega,by omega,((N[M.len - 1]:Nat):Int),?_,j8 _⟩;rw [show nT ((M.len:Int) - 1)=M.len - 1 by omega,xB];exact b2
 ·have:i=T.length:=by omega
  subst this;exact Ay K (b8.le K) a6 d1 q4 (hn.le K) (ht.le K) b5 b1 c5 a5 t3 t4 d0
end
variable {R:VR} {F:PH}
set_option maxHeartbeats 4000000
def Hh (R:VR) (F:PH):Prop:=R (nS mY) F
def Hi (i:Ω) (c h:Sl) (R:VR) (a:Int) (F:PH):Prop:=Bc (a<(c.len:Int)) (Ix c a λd=>Lr F 2 (nR d (nT a*2)) λe=>Ix h a λf=>Lr F 2 (nR f (nT a*2)) λg=>∃b,(∀F,pn prog (Op.equal 80 (nL e) (nL g)) F b)/\Bb ((!b)) (R (nS mz) F) (i (i64.wrap (a+1)) F)) (Hh R F)
def TT (a b:Sl) (R:VR) (F:PH):Prop:=Bc ((a.len:Int)≠(b.len:Int)) (R (nS mz) F) (Lp 0 F λN c F=>Hi N a b R c F)
theorem qff {a:Sl} {b:Sl} (h:TT a b R F):ν 17 #[nE a,nE b] F R:=Rx.Λ (.qa8 (.qa8 (.J mz [] (.qa8 (.L [(5,.int .i64)] .N)) .N))) h
variable {R:VR} {F:PH}
set_option maxHeartbeats 4000000
def Ok (b:Bool) (c:Sl) (a:Int) (R:VR) (F:PH):Prop:=Bb (b) (R (nS (decide (a=(c.len:Int)))) F) (R (nS mz) F)
def oA (h:Int->Ω) (_:Bool) (_:Nat) (_:Int) (_:ο) (_ _:Sl) (b a:Int) (_:VR) (F:PH):Prop:=h a (i64.wrap (b+1)) F
def CZ (n:Int->Ω) (i:Bool) (o:Nat) (c:Int) (d:ο) (e f:Sl) (a g:Int) (m:Nat) (b:Int) (R:VR) (F:PH):Prop:=Li F (Z m 4) λj=>0<=(u64.wrap b)/\Bc ((sq (Int.fdiv j (2 ^ (min (nT (u64.wrap b)) (i64).bits))) 2)=1) (oA n i o c d e f g a R F) (Bc (a=(f.len:Int)) (R (nS mz) F) (Ix f a λk=>Lr F 3 (nR k (nT a*3)) λl=>∃h,(∀F,pn prog (Op.equal 66 (nL l) (nL (#[(U 6),(U g),U 0]:Γ))) F h)/\Bb ((!h)) (R (nS mz) F) (oA n i o c d e f g (i64.wrap (a+1)) R F)))
def C0 (_ k:Int->Ω) (_:Bool) (_:Nat) (_:Int) (_:ο) (_ _:Sl) (_ _:Int) (_:Nat) (_:Sl) (_:Nat) (c a:Int) (_:VR) (F:PH):Prop:=k a (i64.wrap (c - 1)) F
def Ol (s u:Int->Ω) (i:Bool) (t:Nat) (d:Int) (b:ο) (e j:Sl) (c k:Int) (m:Nat) (l:Sl) (n:Nat) (R:VR) (a f:Int) (F:PH):Prop:=Bc (0<=f) (Bc (a=0) (Ix l f λo=>Lx F (nR o (nT f*2)) λp=>Li F (Z n 2) λh=>Li F (Z n 3) λg=>0<=h/\0<=g/\(nT h)<=(nT g)/\(nT g)<=b.size/\Bb ((p.toList==(b.extract (nT h) (nT g)).toList)) (Ix l f λq=>Li F (nR (nR q (nT f*2)) 1) λr=>C0 s u i t d b e j c k m l n f r R F) (C0 s u i t d b e j c k m l n f a R F)) (CZ s i t d b e j c k m a R F)) (CZ s i t d b e j c k m a R F)
def Hj (N:Int->Ω) (h:Bool) (t:Nat) (d:Int) (e:ο) (a i:Sl) (R:VR) (c b:Int) (F:PH):Prop:=Bc (b<(a.len:Int)) (Ix a b λy=>Li F (nR y (nT b*4)) λz=>Bc (z<0) (oA N h t d e a i b c R F) (Ls F (Z t 5) λA=>Ix a b λB=>Li F (nR B (nT b*4)) λp=>Ix A p λC=>∃q,F.cell (nR (nR (nR C (nT p*13)) 8) 3)=V (U q)/\Bc (q=0) (oA N h t d e a i b c R F) (Ls F (Z t 5) λD=>Ix a b λE=>Li F (nR E (nT b*4)) λr=>Ix D r λG=>Lr F 5 (nR (nR G (nT r*13)) 8) λH=>Nb F (Y (#[nS mz,U 0,U 0,U 0,U 0]) 60) λm F=>aA F (Z m 0) 5 H λF=>Lr F 9 (Z t 0) λz0=>ν 25 #[nL z0,nE a,(U b)] F λv F=>∃j,∃n,v=(pk #[nE j,nS n])/\Lr F 9 (Z t 0) λz1=>ν 13 #[nL z1,ru .u64 d,pe e,nE a,(U b)] F λv F=>∃k,∃o,v=(pk #[nE k,(U o)])/\Li F (Z m 3) λK=>Bc ((j.len:Int)<K) (R (nS mz) F) (Li F (Z m 3) λl=>Ix j (i64.wrap (l - 1)) λu=>∃g,F.cell (nR u (nT (i64.wrap (l - 1))*1))=V (U g)/\Ix a g λw=>Lr F 4 (nR w (nT g*4)) λx=>Nb F (Y (#[U 0,U 0,U 0,U 0]) 47) λL F=>aA F (Z L 0) 4 x λF=>(∃(O:Nat->Int->Ω) (M:Nat),O M 0 (i64.wrap ((k.len:Int) - 1)) F/\∀M f s F,O M f s F-> Ol N (VL O M) h t d e a i c b m k L R f s F))))) (Ok h i c R F)
def ZZ (k:Γ) (R:VR) (F:PH):Prop:=Nb F (Y k 28) λq F=>ud 9 #[] F λg F=>Lr F 8 (Z q 0) λl=>ν 10 #[nL l] F λv F=>∃h,∃a,∃b,∃c,∃e,v=(pk #[nL h,ru .u64 a,pe b,nE c,nS e])/\Nb F (Y zG 39) λo F=>aA F (Z o 0) 9 h λF=>Bb ((!e)) (R (nS g) F) (Lr F 9 (Z o 0) λm=>ν 15 #[nL m,ru .u64 a,pe b,nE c] F λv F=>∃i,∃f,v=(pk #[nE i,(U f)])/\Bc (f≠0) (R (nS mz) F) ((∃(p:Nat->Int->Ω) (n:Nat),p n 0 0 F/\∀n d j F,p n d j F-> Hj (VL p n) g o a b c i R d j F)))
theorem cQ7 {a:Γ} (h:ZZ a R F):ν 7 #[nL a] F R:=Rx.Λ (.qa8 (.qa8 (.qa8 (.qa8 (.qa8 (.qa8 (.qa8 (.J mz [(11,.int .i64)] (.qa8 (.L [(11,.int .i64),(12,.int .i64)] (.qa8 (.J mz [(11,.int .i64)] (.qa8 (.qa8 (.qa8 (.qa8 (.qa8 (.qa8 (.qa8 (.J mz [(19,.int .i64)] (.qa8 (.L [(19,.int .i64),(20,.int .i64)] (.qa8 (.J mz [(19,.int .i64)] .N .N)))) .N)))))))) .N)))) .N)))))))) h
def C1 (z:Nat) (a:ο) (h:Sl) (i:ο) (o:Sl) (R:VR) (F:PH):Prop:=Lr F 9 (Z z 0) λA=>ν 11 #[nL A,ru .u64 0,.string a,nE h,(U 0)] F λv F=>∃l,∃d,v=(pk #[nE l,(U d)])/\Lr F 9 (Z z 0) λB=>ν 15 #[nL B,ru .u64 0,.string a,nE h] F λv F=>∃m,∃e,v=(pk #[nE m,(U e)])/\Lr F 9 (Z z 0) λC=>ν 15 #[nL C,ru .u64 0,.string i,nE o] F λv F=>∃b,∃f,v=(pk #[nE b,(U f)])/\Bc ((b.len:Int)≠1) (R (nS mz) F) (Lr F 9 (Z z 0) λD=>ν 13 #[nL D,ru .u64 0,.string a,nE h,(U (i64.wrap ((h.len:Int) - 1)))] F λv F=>∃n,∃g,v=(pk #[nE n,(U g)])/\(#[pe ⟨#[97]⟩,(U 1)]:Γ).size=2/\(#[pe ⟨#[98]⟩,(U 2)]:Γ).size=2/\Nb F (Y (wr (wr (#[pe ⟨#[]⟩,U 0,.string ⟨#[]⟩,U 0]:Γ) 0 (#[pe ⟨#[97]⟩,(U 1)]:Γ).toList) 2 (#[pe ⟨#[98]⟩,(U 2)]:Γ).toList) 80) λk F=>Bc (d=0) (ud 17 #[nE l,nE (Sb k 2)] F λE F=>Bb (E) (Bc (e=0) (Bc ((m.len:Int)=0) (Bc (f=0) (Ix b 0 λG=>Li F (nR G (nT 0*3)) λH=>Bc (H=6) (Ix b 0 λp=>∃j,F.cell (nR (nR p (nT 0*3)) 2)=V (U j)/\Bc (j=0) (Ix b 0 λq=>∃c,F.cell (nR (nR q (nT 0*3)) 1)=V (U c)/\Ix o c λr=>Li F (nR r (nT c*4)) λs=>Bc (s=3) (Bc (g=0) (0<=1/\1<=(Sb k 2).cap/\ud 17 #[nE n,nE (Sl.cut (Sb k 2) 2 0 1 (Sb k 2).cap)] F λt F=>Bb (t) (Lr F 9 (Z z 0) λu=>ud 19 #[nL u,ru .u64 0,.string a,nE h] F λw F=>Bb (w) (Lr F 9 (Z z 0) λx=>ud 19 #[nL x,ru .u64 0,.string i,nE o] F λy F=>R (nS (!y)) F) (R (nS mz) F)) (R (nS mz) F)) (R (nS mz) F)) (R (nS mz) F)) (R (nS mz) F)) (R (nS mz) F)) (R (nS mz) F)) (R (nS mz) F)) (R (nS mz) F)) (R (nS mz) F)) (R (nS mz) F))
def TU (b3:Nat) (w n:Γ) (K:ο->Sl->Ψ) (F:PH):Prop:=
 ν 28 #[(nL w),(nL n),(nE pi)] F λv F=>∃a,∃p,∃t,v=(pk #[(pe a),(nL p),(nE t)])/\aA F (Z b3 0) 4 p λF=>K a t F
def TX (b1 b3:Nat) (w:Γ) (z:Nat) (K:ο->Sl->Ψ) (F:PH):Prop:=
 Ca 29 #[(nE (Sb z 2))] F λn F=>F.row (Z b1 0) w/\TU b3 w n K F
def Hk (b1 b3:Nat) (w:Γ) (x y:Nat) (K:ο->Sl->Ψ) (F:PH):Prop:=
 Nb F (Y #[(nE (Sb x 2)),(nE (Sb y 3))] 30) λz F=>TX b1 b3 w z K F
def qfg (b1:Nat) (w:Γ) (z:Nat) (K:ο->Sl->Ψ) (F:PH):Prop:=
 ((Ca 29 #[(nE (Sb z 2))] F λn F=>F.row (Z b1 0) w/\((ν 28 #[(nL w),(nL n),(nE pi)] F λv F=>∃a,∃p,∃t,v=(pk #[(pe a),(nL p),(nE t)])/\Nb F (Y (#[tS I 0 0,.slice I 0 0,U 0,U 0]) 89) λb3 F=>aA F (Z b3 0) 4 p λF=>K a t F)/\(Nb F (Y (#[tS I 0 0,.slice I 0 0,U 0,U 0]) 89) λb3 F=>TU b3 w n K F)))/\(Nb F (Y (#[tS I 0 0,.slice I 0 0,U 0,U 0]) 89) λb3 F=>TX b1 b3 w z K F))
def TY (b1:Nat) (w:Γ) (x y:Nat) (K:ο->Sl->Ψ) (F:PH):Prop:=
 ((Nb F (Y #[(nE (Sb x 2)),(nE (Sb y 3))] 30) λz F=>qfg b1 w z K F)/\(Nb F (Y (#[tS I 0 0,.slice I 0 0,U 0,U 0]) 89) λb3 F=>Hk b1 b3 w x y K F))
def TZ (b1:Nat) (w c:Γ) (K:ο->Sl->Ψ) (F:PH):Prop:=
 ((Nb F (Y c 9) λx F=>((Nb F (Y #[(pe ⟨#[112,111,105,110,116,101,114]⟩),(pe ⟨#[97]⟩),(pe ⟨#[98]⟩)] 9) λy F=>TY b1 w x y K F)/\(Nb F (Y (#[tS I 0 0,.slice I 0 0,U 0,U 0]) 89) λb3 F=>Nb F (Y #[(pe ⟨#[112,111,105,110,116,101,114]⟩),(pe ⟨#[97]⟩),(pe ⟨#[98]⟩)] 9) λy F=>Hk b1 b3 w x y K F)))/\(Nb F (Y #[(pe ⟨#[112,111,105,110,116,101,114]⟩),(pe ⟨#[97]⟩),(pe ⟨#[98]⟩)] 9) λy F=>((Nb F (Y c 9) λx F=>TY b1 w x y K F)/\(Nb F (Y (#[tS I 0 0,.slice I 0 0,U 0,U 0]) 89) λb3 F=>Nb F (Y c 9) λx F=>Hk b1 b3 w x y K F)))/\(Nb F (Y (#[tS I 0 0,.slice I 0 0,U 0,U 0]) 89) λb3 F=>((Nb F (Y c 9) λx F=>Nb F (Y #[(pe ⟨#[112,111,105,110,116,101,114]⟩),(pe ⟨#[97]⟩),(pe ⟨#[98]⟩)] 9) λy F=>Hk b1 b3 w x y K F)/\(Nb F (Y #[(pe ⟨#[112,111,105,110,116,101,114]⟩),(pe ⟨#[97]⟩),(pe ⟨#[98]⟩)] 9) λy F=>Nb F (Y c 9) λx F=>Hk b1 b3 w x y K F))))
def C2 (d:Nat) (b:ο) (e:Sl) (R:VR) (F:PH):Prop:=Lr F 9 (Z d 0) λc=>TZ d c #[pe ⟨#[40]⟩,pe ⟨#[97]⟩] (λa t F=>C1 d b e a t R F) F
def Z0 (R:VR) (F:PH):Prop:=Ca 27 #[] F λb F=>Nb F (Y zG 39) λd F=>aA F (Z d 0) 9 b λF=>Lr F 9 (Z d 0) λc=>TZ d c #[pe ⟨#[116,121,112,101]⟩,pe ⟨#[97]⟩] (λa t F=>C2 d a t R F) F
theorem cQ9 (h:Z0 R F):ν 9 #[] F R:=Rx.Λ (.qa8 (.qa8 (.J mz [(2,.str),(4,.sl)] .N (.J mz [(5,.str),(7,.sl)] .N .N)))) h
def vf (s p:Nat) (R:VR) (F:PH):Prop:=Lr F 8 (Z s 0) λj=>ν 30 #[nL j] F λv F=>∃h,∃a,∃b,∃c,v=(pk #[nL h,ru .u64 a,nL b,nS c])/\Nb F (Y zG 39) λq F=>Nb F (Y (#[tS I 0 0,.slice I 0 0]) 94) λt F=>aA F (Z q 0) 9 h λF=>aA F (Z t 0) 2 b λF=>Bb ((!c)) (Lr F 9 (Z q 0) λk=>aA F (Z p 0) 9 k λF=>Lr F 9 (Z p 0) λg=>R (pk #[nL g,ru .u64 a,pe ⟨#[]⟩,nE pi,nS mz]) F) (Lr F 9 (Z q 0) λl=>Lr F 2 (Z t 0) λm=>Ls F (Z s 7) λn=>ν 28 #[nL l,nL m,nE n] F λv F=>∃i,∃d,∃e,v=(pk #[pe i,nL d,nE e])/\Nb F (Y (#[tS I 0 0,.slice I 0 0,U 0,U 0]) 89) λr F=>aA F (Z r 0) 4 d λF=>Lr F 9 (Z q 0) λo=>aA F (Z p 0) 9 o λF=>Lr F 9 (Z p 0) λf=>R (pk #[nL f,ru .u64 a,pe i,nE e,nS mY]) F)
def T0 (a:Γ) (R:VR) (F:PH):Prop:=Nb F (Y a 28) λc F=>Nb F (Y zG 39) λd F=>Lk F .u8 (Z c 0) λb=>Bc ((sq b 8)≠7) (qW F (Z c 0) (ru .u8 2) λF=>vf c d R F) (vf c d R F)
theorem qfh {a:Γ} (h:T0 a R F):ν 10 #[nL a] F R:=Rx.Λ (.qa8 (.J mz [] .N .N)) h
def Hl (b c:Nat) (R:VR) (F:PH):Prop:=Lr F 2 (Z c 0) λa=>aA F (Z b 0) 2 a λF=>Rr 2 (Z b 0) R F
def qR (b:Ω) (_:Sl) (_ _:Nat) (a:Int) (_:VR) (F:PH):Prop:=b (i64.wrap (a+1)) F
def Az (W:Ω) (h:Sl) (z1 c:Nat) (R:VR) (a:Int) (F:PH):Prop:=Bc (a<(h.len:Int)) (Ix h a λG=>Ls F (nR G (nT a*1)) λH=>Ix H 0 λz4=>Lx F (nR z4 (nT 0*1)) λz5=>Ci 61 #[pe z5] F λn F=>Ls F (Z c 0) λK=>(#[(U n),(U (-1:Int)),pe ⟨#[]⟩,tS I 0 0]:Γ).size=4/\Nb F (Y (#[(U n),(U (-1:Int)),pe ⟨#[]⟩,tS I 0 0]:Γ) 137) λX F=>Ap 92 #[nE K,nE (Sb X 1)] F λL F=>qW F (Z c 0) (nE L) λF=>Bc (n=2) (Ls F (Z c 0) λo=>Ix h a λi=>Ls F (nR i (nT a*1)) λj=>Ix j 1 λs=>Lx F (nR s (nT 1*1)) λt=>Ca 62 #[(U 1),pe ⟨#[43]⟩] F λu F=>F.cell (nR s (nT 1*1))=V (pe t)/\F.cell (nR i (nT a*1))=V (nE j)/\F.cell (Z c 0)=V (nE o)/\Ca 62 #[(U 0),pe t] F λv F=>F.cell (nR i (nT a*1))=V (nE j)/\F.cell (Z c 0)=V (nE o)/\Ca 62 #[(U 7),pe ⟨#[59]⟩] F λw F=>F.cell (nR i (nT a*1))=V (nE j)/\F.cell (Z c 0)=V (nE o)/\u.size=4/\v.size=4/\w.size=4/\Nb F (Y (wr (wr (wr (#[U 0,U 0,.string ⟨#[]⟩,tS I 0 0,U 0,U 0,.string ⟨#[]⟩,tS I 0 0,U 0,U 0,.string ⟨#[]⟩,tS I 0 0]:Γ) 0 u.toList) 4 v.toList) 8 w.toList) 137) λz3 F=>Ap 92 #[nE o,nE (Sb z3 3)] F λM F=>F.cell (nR i (nT a*1))=V (nE j)/\qW F (Z c 0) (nE M) λF=>qR W h z1 c a R F) (Bc (n=3) (Ls F (Z c 0) λk=>Ix h a λe=>Ls F (nR e (nT a*1)) λf=>Ix f 1 λN=>Lx F (nR N (nT 1*1)) λO=>Ix h a λg=>Ls F (nR g (nT a*1)) λb=>Ix b 2 λl=>Lx F (nR l (nT 2*1)) λm=>Ca 62 #[(U 0),pe O] F λx F=>F.cell (nR l (nT 2*1))=V (pe m)/\F.cell (nR g (nT a*1))=V (nE b)/\F.cell (nR e (nT a*1))=V (nE f)/\F.cell (Z c 0)=V (nE k)/\Ca 62 #[(U 2),pe ⟨#[42]⟩] F λy F=>F.cell (nR l (nT 2*1))=V (pe m)/\F.cell (nR g (nT a*1))=V (nE b)/\F.cell (nR e (nT a*1))=V (nE f)/\F.cell (Z c 0)=V (nE k)/\Ca 62 #[(U 0),pe m] F λp F=>F.cell (nR g (nT a*1))=V (nE b)/\F.cell (nR e (nT a*1))=V (nE f)/\F.cell (Z c 0)=V (nE k)/\Ca 62 #[(U 7),pe ⟨#[59]⟩] F λq F=>F.cell (nR g (nT a*1))=V (nE b)/\F.cell (nR e (nT a*1))=V (nE f)/\F.cell (Z c 0)=V (nE k)/\x.size=4/\y.size=4/\p.size=4/\q.size=4/\Nb F (Y (wr (wr (wr (wr (#[U 0,U 0,.string ⟨#[]⟩,tS I 0 0,U 0,U 0,.string ⟨#[]⟩,tS I 0 0,U 0,U 0,.string ⟨#[]⟩,tS I 0 0,U 0,U 0,.string ⟨#[]⟩,tS I 0 0]:Γ) 0 x.toList) 4 y.toList) 8 p.toList) 12 q.toList) 137) λP F=>Ap 92 #[nE k,nE (Sb P 4)] F λE F=>F.cell (nR g (nT a*1))=V (nE b)/\F.cell (nR e (nT a*1))=V (nE f)/\qW F (Z c 0) (nE E) λF=>qR W h z1 c a R F) (Ls F (Z c 0) λz=>Ca 62 #[(U 3),pe ⟨#[40]⟩] F λA F=>F.cell (Z c 0)=V (nE z)/\A.size=4/\Nb F (Y A 137) λz2 F=>Ap 92 #[nE z,nE (Sb z2 1)] F λQ F=>qW F (Z c 0) (nE Q) λF=>Ls F (Z c 0) λB=>Ix h a λr=>Ls F (nR r (nT a*1)) λd=>1<=d.len/\d.len<=d.cap/\Cs 63 #[nE (Sl.cut d 1 1 d.len d.cap)] F λS F=>F.cell (nR r (nT a*1))=V (nE d)/\F.cell (Z c 0)=V (nE B)/\Ap 92 #[nE B,nE S] F λT F=>F.cell (nR r (nT a*1))=V (nE d)/\qW F (Z c 0) (nE T) λF=>Ls F (Z c 0) λC=>Ca 62 #[(U 4),pe ⟨#[41]⟩] F λD F=>F.cell (Z c 0)=V (nE C)/\D.size=4/\Nb F (Y D 137) λaa F=>Ap 92 #[nE C,nE (Sb aa 1)] F λz0 F=>qW F (Z c 0) (nE z0) λF=>qR W h z1 c a R F))) (Hl z1 c R F)
def Hm (c:Sl) (g d:Nat) (R:VR) (F:PH):Prop:=Ls F (Z d 0) λa=>(#[(U 0),(U (-1:Int)),pe ⟨#[]⟩,tS I 0 0]:Γ).size=4/\Nb F (Y (#[(U 0),(U (-1:Int)),pe ⟨#[]⟩,tS I 0 0]:Γ) 137) λe F=>Ap 92 #[nE a,nE (Sb e 1)] F λb F=>qW F (Z d 0) (nE b) λF=>Lp 0 F λN f F=>Az N c g d R f F
def AA (g:Ω) (a:Sl) (h e:Nat) (R:VR) (b:Int) (F:PH):Prop:=Bc (b<(a.len:Int)) (Ls F (Z e 0) λc=>(#[(U 1),(U (-1:Int)),pe ⟨#[]⟩,tS I 0 0]:Γ).size=4/\Nb F (Y (#[(U 1),(U (-1:Int)),pe ⟨#[]⟩,tS I 0 0]:Γ) 137) λf F=>Ap 92 #[nE c,nE (Sb f 1)] F λd F=>qW F (Z e 0) (nE d) λF=>g (i64.wrap (b+1)) F) (Hm a h e R F)
def T1 (a:Sl) (R:VR) (F:PH):Prop:=Nb F (Y (#[tS I 0 0,.slice I 0 0]) 94) λd F=>Nb F (Y (#[tS I 0 0,.slice I 0 0]) 94) λc F=>aA F (Z c 0) 2 (#[tS I 0 0,.slice I 0 0]:Γ) λF=>Lp 0 F λN b F=>AA N a d c R b F
theorem qfi {a:Sl} (h:T1 a R F):ν 29 #[nE a] F R:=Rx.Λ (.qa8 (.qa8 (.J mz [] (.qa8 (.L [(4,.int .i64)] .N)) (.qa8 (.J mz [] (.qa8 (.L [(5,.int .i64)] (.qa8 (.J mz [] .N .N)))) .N))))) h
def T2 (a:ο) (R:VR) (F:PH):Prop:=Bb ((a.toList==(ByteArray.mk #[116,121,112,101]).toList)) (R (U 2) F) (Bb ((a.toList==(ByteArray.mk #[112,111,105,110,116,101,114]).toList)) (R (U 3) F) (R (U 5) F))
theorem qfj {a:ο} (h:T2 a R F):ν 61 #[pe a] F R:=Rx.Λ .N h
def T3 (a:Int) (b:ο) (R:VR) (F:PH):Prop:=Nb F (Y (#[U 0,U 0,.string ⟨#[]⟩,tS I 0 0]) 137) λc F=>aA F (Z c 0) 4 (#[(U (-1:Int)),(U a),pe b,tS I 0 0]:Γ) λF=>Rr 4 (Z c 0) R F
theorem qfk {a:Int} {b:ο} (h:T3 a b R F):ν 62 #[(U a),pe b] F R:=Rx.Λ .N h
def Hn (c:Sl) (R:VR) (F:PH):Prop:=Ca 29 #[nE c] F λb F=>∃a,b[0]? =V (nE a)/\R (nE a) F
def AB (i:Sl->Ω) (a:Sl) (R:VR) (b:Sl) (c:Int) (F:PH):Prop:=Bc (c<(a.len:Int)) (Ix a c λd=>Lx F (nR d (nT c*1)) λe=>Nb F (Y #[pe ⟨#[116,121,112,101]⟩,pe e] 9) λg F=>Nb F (Y #[nE (Sb g 2)] 30) λh F=>Ap 144 #[nE b,nE (Sb h 1)] F λf F=>i f (i64.wrap (c+1)) F) (Hn b R F)
def T4 (a:Sl) (R:VR) (F:PH):Prop:=(∃(e:Nat->Sl->Ω) (d:Nat),e d pi 0 F/\∀d b c F,e d b c F-> AB (VL e d) a R b c F)
theorem qfl {a:Sl} (h:T4 a R F):ν 63 #[nE a] F R:=Rx.Λ (.qa8 (.qa8 (.J mz [(3,.sl)] (.qa8 (.L [(3,.sl),(4,.int .i64)] .N)) .N))) h
theorem T5 (x y:tU) (F:PH):pn prog (Op.equal 80 (nL (jZ x)) (nL (jZ y))) F (decide (x=y)):=by
 have h:=mq (t:=80) underlying80 (by kernel_rfl) (cs:=jZ x) (ds:=jZ y) (λf=>if f.offset=0 then decide (x.1=y.1) else decide (x.2=y.2)) (λf g=>by
  simp only [tD,Wx,or_false] at g;rcases g with rfl|rfl
  ·exact ⟨by decide,_,_,rfl,rfl,.str underlying9⟩
  ·exact ⟨by decide,_,_,rfl,rfl,.int underlying3⟩) F
 refine cast ?_ h;congr 1;cases x;cases y;rw [wi];simp
deriving instance DecidableEq for Vio
theorem T6 (x y:Vio) (F:PH):pn prog (Op.equal 66 (nL x.arr) (nL y.arr)) F (decide (x=y)):=by
 have h:=mq (t:=66) underlying66 (by kernel_rfl) (cs:=x.arr) (ds:=y.arr) (λf=>if f.offset=1 then decide ((x.i:Int)=y.i) else mY) (λf g=>by
  simp only [tD,Wx,or_false] at g;rcases g with rfl|rfl|rfl
  ·exact ⟨by decide,_,_,rfl,rfl,by rw [show (if (0:Nat)=1 then decide ((x.i:Int)=y.i) else mY)=decide ((6:Int)=6) by rfl];exact .int underlying3⟩
  ·exact ⟨by decide,_,_,rfl,rfl,.int underlying3⟩
  ·exact ⟨by decide,_,_,rfl,rfl,by rw [show (if (2:Nat)=1 then decide ((x.i:Int)=y.i) else mY)=decide ((0:Int)=0) by rfl];exact .int underlying3⟩) F
 refine cast ?_ h;congr 1;cases x;cases y;rw [wi];simp;omega
theorem Ri {F:PH} {B:(Ω)->Ω} (n:Nat) (Inv:Nat->Ψ) (h:Inv 0 F) (step:∀(k:Nat) (F:PH) (N:Ω),k<=n->Inv k F->(∀g,k<n->Inv (k+1) g->N ((k+1:Nat):Int) g)->B N (k:Int) F):Lp (0:Int) F B:=bC B n Inv h step
theorem L0 {α:Type} [Mem α] [DecidableEq α] {F:PH} {a b:Sl} {l m:List α} {n t:Nat} (L:RL F a l) (M:RL F b m) (E:0<Mem.n α) (K:Mem.n α=n) (hL:l.length<=1000000000) (H:∀(x y:α) c d,Mem.rep F x c->Mem.rep F y d->∀g,pn prog (Op.equal t (nL c) (nL d)) g (decide (x=y))):
  Bc ((a.len:Int)≠(b.len:Int)) ((λ(r:ξ) (g:PH)=>r=nS (decide (l=m))/\g=F) (nS mz) F) (Lp (0:Int) F λN i g=>Bc (i<(a.len:Int)) (
   Ix a i λx=>Lr g n (nR x (nT i*n)) λv=>Ix b i λy=>Lr g n (nR y (nT i*n)) λw=>∃e,(∀F,pn prog (Op.equal t (nL v) (nL w)) F e)/\
   Bb (!e) ((λ(r:ξ) (g:PH)=>r=nS (decide (l=m))/\g=F) (nS mz) g) (N (i64.wrap (i+(1:Int))) g)) ((λ(r:ξ) (g:PH)=>r=nS (decide (l=m))/\g=F) (nS mY) g)):=by
 subst K;have W:=L.len E;have eb:=M.len E;refine ⟨λQ=>⟨?_,rfl⟩,λhe=> ?_⟩
 ·rw [η];intro e;rw [e] at W;omega
 refine Ri l.length (λk g=>g=F/\l.take k=m.take k) ⟨rfl,rfl⟩ ?_;rintro k g N hk ⟨rfl,A⟩ next;refine ⟨λh=> ?_,λP=>⟨?_,rfl⟩⟩
 ·have h:k<l.length:=by omega
  refine t6 L E (by omega) (by omega) λx c u C D O=>⟨c,Mem.len O,D,?_⟩;refine t6 M E (by omega) (by omega) λy d z G B hd=>⟨d,Mem.len hd,B,_,H u z c d O hd,λK=>⟨?_,rfl⟩,λJ=> ?_⟩
  ·rw [η];intro e;rw [N4] at C G;rw [e,G] at C;cases C;simp at K
  ·have J:u=z:=by simpa using J
   rw [N4] at C G;rw [aC h];exact next _ h ⟨rfl,by rw [bo C,bo G,A,J]⟩
 ·have X:k=l.length:=by omega
  rw [ε];rw [X,wy,zc (by omega)] at A;exact A
section
variable {F:PH} {a b:Sl}
theorem i6 {l m:List tU} (B:RL F a l) (A:RL F b m) (h:l.length<=1000000000):ν 17 #[a.v,b.v] F λr g=>r=nS (decide (l=m))/\g=F:=by refine qff ?_;unfold TT Hi Hh;exact L0 B A (by decide) rfl h λx y c d w hd g=>by rw [show c=jZ x from w,show d=jZ y from hd];exact T5 x y g
end
section
variable {F G:PH} {x:Rw} {j:Nat} {L N:Δ}
def yf (x:Rw):Rw:=if x.qa5 % 8≠7 then {x with qa5:=2} else x
structure Ho (F:PH) (x:Rw) (w:Γ) (c:Nat) (tx:ByteArray) (t:Sl) (T:List Tmn) (tl:List ByteArray) (m:Ttr) (ws:List (Nat×Nat)):Prop where
 gv:GV F w (aS x)
 c8:c<8
 inw:Uh (aS x) (c:Int)=mY
 tr:wm (aS x) (wo (c:Int)) ⟨mz,0⟩ m
 sz:yR m<=44537
 sp:SpO T m tx ws
 rl:RL F t (vD (zd tx ws m))
 ok:∀y∈T,TmO y
 key:T.map Tmn.key=Uz m
theorem Ho.le {w:Γ} {c:Nat} {tx:ο} {t:Sl} {T:List Tmn} {r:List ο} {m:Ttr} {g:List (Nat×Nat)} (h:Ho F x w c tx t T r m g) (l:F.le G):Ho G x w c tx t T r m g:=⟨h.gv.le l,h.c8,h.inw,h.tr,h.sz,h.sp,h.rl.le l,h.ok,h.key⟩
def Rj (_:PH) (x:Rw) (r:ξ) (F':PH):Prop:=∃(w:Γ) (c:Nat),GV F' w (aS x)/\c<8/\((∃(tx:ο) (t:Sl),r=pk #[nL w,ru .u64 (c:Int),pe tx,t.v,nS mz])\/
 ∃tx t T tl m ws,r=pk #[nL w,ru .u64 (c:Int),pe tx,nE t,nS mY]/\Ho F' x w c tx t T tl m ws)
theorem C3 {b1 b2:Nat} {v:Γ} {F0:PH} (hx:InV G v x j L N) (lF:F0.le G) (h:St G F [pt b2 (Y zG 39),pt b1 (Y v 28)]):vf b1 b2 (λr M=>Rj F0 x r M/\F0.le M) F:=by
 have X:=hx;obtain ⟨⟨v0,v1,v2,v3,v4,l,n,rfl,hr,hL,hN⟩,hj,a6,a5⟩:=hx;unfold vf;refine ⟨_,rfl,h.whole1,?_⟩;refine h.run (P:=λr J=>∃(w:Γ) (c:Nat) (A:Γ) (ok:Bool),r=pk #[nL w,ru .u64 (c:Int),nL A,nS ok]/\GV J w (aS x)/\c<8/\Uh (aS x) (c:Int)=mY/\((ok=mz/\A= #[Sl.nil.v,Sl.nil.v])\/(ok=mY/\∃T H m,TmV J (aS x) (c:Int) ⟨mz,0⟩ A T H m))) ((Ao X).mono λr M ⟨w,c,A,ok,h1,Q,h3,h4,W,h6⟩=>⟨⟨w,c,A,ok,h1,Q,h3,h4,h6⟩,W⟩) λ_ G1 F1 O l1 h=> ?_;obtain ⟨w,c,A,ok,rfl,g,c8,hi,ht⟩:=O;have B:A.size=2/\∀y∈A.toList,ak y:=by
  rcases ht with ⟨_,rfl⟩|⟨_,T,H,m,C⟩
  ·exact ⟨rfl,by simp [ak,nE]⟩
  ·obtain ⟨n,t,rfl,_⟩:=C.ex;exact ⟨rfl,by simp [ak,nE]⟩
 refine ⟨_,_,_,_,rfl,?_⟩;refine h.new λb7 F2 h=>h.new λb9 F3 h=> ?_;refine h.put1 (w':=w) g.size rfl g.st λF4 h=>h.put0 (w':=A) B.1 rfl B.2 λF5 h=> ?_;have D:=aa lF l1;rcases ht with ⟨rfl,_⟩|⟨rfl,T,H,m,C⟩
 ·refine ⟨λ_=> ?_,λhn=>(by cases hn)⟩;refine ⟨w,g.size,h.whole1,h.put2 (w':=w) g.size rfl g.st λF6 h=>⟨w,g.size,h.whole2,⟨w,c,g.le h.le,c8,.inl ⟨_,pi,rfl⟩⟩,aa D h.le⟩⟩
 ·refine ⟨λhn=>(by cases hn),λ_=> ?_⟩;refine ⟨w,g.size,h.whole1,A,B.1,h.whole0,n,h.ld3 (i:=7) rfl,?_⟩;refine h.run (P:=λr J=>∃(E:ο) (p:Γ) (t:Sl) (K:List (Nat×Nat)),r=pk #[pe E,nL p,t.v]/\p.size=4/\(∀x∈p.toList,ak x)/\SpO T m E K/\RL J t (vD (zd E K m))) ((ox g (lZ x) C (hN.le l1)).mono λr M ⟨a,b,c,d,h1,Q,h3,h4,W,h6⟩=>⟨⟨a,b,c,d,h1,Q,h3,h4,W⟩,h6⟩) λ_ G2 F6 a0 l2 h=> ?_;obtain ⟨E,p,t,K,rfl,hp,a1,a3,a2⟩:=a0;refine ⟨_,_,_,rfl,?_⟩;refine h.new λa4 F7 h=>h.put0 (w':=p) hp rfl a1 λF8 h=> ?_;refine ⟨w,g.size,h.whole2,h.put3 (w':=w) g.size rfl g.st λF9 h=>⟨w,g.size,h.whole3,⟨w,c,g.le (aa l2 h.le),c8,.inr ⟨E,t,T,H,m,K,rfl,?_⟩⟩,aa D (aa l2 h.le)⟩⟩;exact ⟨g.le (aa l2 h.le),c8,hi,C.tr,C.sz,a3,a2.le h.le,C.ok,C.key⟩
theorem AD {v:Γ} (C:InV F v x j L N):ν 10 #[nL v] F λr D=>Rj F (yf x) r D/\F.le D:=by
 have g:=C;obtain ⟨⟨v0,v1,v2,v3,v4,l,n,rfl,⟨⟨E,B,H,e,P,hl,O⟩,hb,X⟩,K,M⟩,W,A,w⟩:=C;simp only [Array.mk.injEq,List.cons.injEq,and_true] at e;obtain ⟨rfl,rfl,rfl,rfl,rfl⟩:=e;refine qfh ?_;unfold T0;refine (St.start F).new λb1 F1 h=>h.new λb2 F2 h=> ?_;refine ⟨_,h.ld1 (i:=0) rfl,?_⟩;have Q:sq (x.qa5:Int) 8=((x.qa5 % 8:Nat):Int):=by rw [Xu (by omega)];rfl
 dsimp only;rw [Q];unfold yf;refine ⟨λJ=> ?_,λhe=> ?_⟩
 ·rw [Χ (by omega)];refine h.set1 (w':= #[vB 2,vB x.n,E.v,B.v,H.v,ru .u8 (j:Int),l.v,n.v]) (vx rfl) rfl λF3 h=> ?_;exact C3 ⟨⟨_,_,_,_,_,l,n,rfl,⟨⟨E,B,H,rfl,P,hl,O⟩,by show 2<256;decide,X⟩,K,M⟩,W,A,w⟩ (au _) h
 ·rw [Υ (by omega)];exact C3 g (au _) h
end
instance memStrs:Mem (List ο) where
 n:=1
 rep F x c:=∃s:Sl,c= #[s.v]/\RL F s x
 len h:=by obtain ⟨s,rfl,_⟩:=h;rfl
 le hl h:=by obtain ⟨s,h1,h2⟩:=h;exact ⟨s,h1,h2.le hl⟩
 st h:=by obtain ⟨s,rfl,_⟩:=h;simp [ak,nE]
abbrev W9 (p:Int):Tmn:=⟨p,-1,emp,[]⟩
abbrev Ue (k:Int) (s:ByteArray):Tmn:=⟨-1,k,s,[]⟩
abbrev U7:ByteArray:=⟨#[116,121,112,101]⟩
abbrev yZ:ByteArray:=⟨#[112,111,105,110,116,101,114]⟩
abbrev L3 (s:ByteArray):List Tmn:=[W9 2,Ue 1 ⟨#[43]⟩,Ue 0 s,Ue 7 ⟨#[59]⟩]
abbrev Y3 (n:Nat):List Tmn:=List.replicate n (W9 1)++[W9 0]
def tP (names:List ο):List Tmn:=Y3 names.length++names.flatMap L3
def VT (x:List ο):List Tmn:=if x.getD 0 emp=U7 then L3 (x.getD 1 emp) else if x.getD 0 emp=yZ then [W9 3,Ue 0 (x.getD 1 emp),Ue 2 ⟨#[42]⟩,Ue 0 (x.getD 2 emp),Ue 7 ⟨#[59]⟩] else [W9 5,Ue 3 ⟨#[40]⟩]++tP x.tail++[Ue 4 ⟨#[41]⟩]
def zM (l:List (List ο)):List Tmn:=Y3 l.length++l.flatMap VT
def L4 (x:List ο):Prop:=1<=x.length/\(x.getD 0 emp=U7->2<=x.length)/\(x.getD 0 emp=yZ->3<=x.length)
def isO (x:List ο):Prop:=x.getD 0 emp≠U7/\x.getD 0 emp≠yZ
section
variable {F G:PH} {As:List (Ψ)}
theorem AG (s:ο):ν 61 #[pe s] F λr w=>r=U (if s=U7 then 2 else if s=yZ then 3 else 5)/\F.le w:=by
 refine qfj ?_;unfold T2;rw [py,py];refine ⟨λh=>⟨?_,au _⟩,λh=>⟨λg=>⟨?_,au _⟩,λg=>⟨?_,au _⟩⟩⟩
 ·rw [Χ (ζ h)]
 ·rw [Υ (ι h),Χ (ζ g)]
 ·rw [Υ (ι h),Υ (ι g)]
theorem cT (k:Int) (s:ο):ν 62 #[U k,pe s] F λr g=>r=nL #[U (-1),U k,pe s,Sl.nil.v]/\F.le g:=by refine qfk ?_;unfold T3;refine (St.start F).new λb w h=>h.put0 (w':= #[U (-1),U k,pe s,Sl.nil.v]) rfl rfl (by simp [ak,nE]) λF2 h=>⟨_,rfl,h.whole0,rfl,h.le⟩
abbrev Vb (x:Tmn):Γ:= #[U x.pr,U x.tk,pe x.tx,Sl.nil.v]
abbrev TW (b3:Nat) (o:Sl) (l:List Tmn) (As:List (Ψ)):List (Ψ):=pt b3 (Y #[o.v,Sl.nil.v] 94)::own o 137 4 (tZ (l.map Vb))::As
theorem Rk {r:Nat} {o:Sl} {l:List Tmn} (h:St G F (TW r o l As)):o.len=l.length:=by
 have g:=(h.ownAt (i:=1) rfl).1.rd.len;have w:(tZ (l.map Vb)).length=l.length*4:=by
  clear g h;induction l with
  |nil=>rfl
  |cons x l ih=>rw [xw,cH,tT,ih];show 4+_=(l.length+1)*4;omega
 omega
abbrev TV (b3:Nat) (o o':Sl) (l:List Tmn) (As:List (Ψ)):List (Ψ):=pt b3 (Y #[o.v,Sl.nil.v] 94)::own o' 137 4 (tZ (l.map Vb))::As
theorem vh {g:Nat} {o o':Sl} {l:List Tmn} (h:St G F (TV g o o' l As)) {C:Ψ} (k:∀r,St G r (TW g o' l As)->C r):qW F (ou g 0 I) o'.v C:=
 St.set0 (w':= #[o'.v,Sl.nil.v]) h (vx rfl) rfl k
theorem vj {A:Nat} {o x:Sl} {l m:List Tmn} (h:St G F (TW A o l As)) (D:RdS F x 4 (tZ (m.map Vb))) (H:l.length+x.len<=1000000) {C:Sl->Ψ} (k:∀r o',St G r (TV A o o' (l++m) As)->C o' r):
  aG prog (Builtin.append_ #[92,92] 92 #[o.v,x.v]) F λv F=>∃w:Sl,v=nE w/\C w F:=by
 obtain ⟨_,_,T⟩:=TL;have E:=Rk h;refine h.appAt T 1 rfl D (λv g=> ?_) (by omega) λo' r h _=>k r o' ?_
 ·unfold tZ at g;obtain ⟨y,B,g⟩:=XV.1 g;obtain ⟨z,_,rfl⟩:=w9.1 B;simp only [tD,Wx,or_false] at g;rcases g with rfl|rfl|rfl|rfl<;>simp [ak,nE]
 ·rw [<- ba,<- yT] at h;exact h
theorem qS {r:Nat} {o:Sl} {l:List Tmn} {y:Tmn} {C:Ψ} (H:l.length<=900000) (h:St G F (TW r o l As)) (k:∀w g o',G.le w->St w g (TW r o' (l++[y]) As)->C g):
  ∀b,F b=I->xG (F.set b (Y (Vb y) 137)) λF=>aG prog (Builtin.append_ #[92,92] 92 #[o.v,nE (Sb b 1)]) F λv F=>∃A:Sl,v=nE A/\qW F (ou r 0 I) A.v C:=by
 refine h.newG λb D E B q _ h=> ?_;exact vj (m:=[y]) h (RdS.new (h.le _ _ q) rfl rfl (qX _)) (by show _+1<=_;omega) λg o' h=>vh h λg h=>k D g o' B h
def ZY (F:PH) (X:List (List ο)) (r:ξ) (F':PH):Prop:=(∃n,r=nL #[nE n,Sl.nil.v]/\RdS F' n 4 (tZ ((zM X).map Vb)))/\F.le F'
def ZT (F:PH) (names:List ο) (r:ξ) (F':PH):Prop:=(∃n,r=nE n/\RdS F' n 4 (tZ ((tP names).map Vb)))/\F.le F'
theorem C4 (x:List ο):(VT x).length<=10+5*x.length:=by
 unfold VT;have hi:∀l:List ο,(l.flatMap L3).length=4*l.length:=λl=>by
  induction l with
  |nil=>rfl
  |cons y l ih=>rw [Vx,tT,ih];show 4+_=4*(l.length+1);omega
 split
 ·show 4<=_;omega
 ·split
  ·show 5<=_;omega
  ·unfold tP;rw [tT,tT,tT,hi,tT,Xx,List.length_tail];show 2+(_+1+_)+1<=_;omega
theorem qT {l:Sl} {X:List (List ο)} (hl:RL F l X) (hX:∀x∈X,L4 x) (c6:∀x∈X,x.length<=100) (hn:X.length<=100)
  (e4:(∃x∈X,isO x)->∀{G:PH} {s:Sl} {J:List ο},J.length<=100->RL G s J->ν 63 #[s.v] G (ZT G J)):ν 29 #[l.v] F (ZY F X):=by
 have el:=hl.len;refine qfi ?_;unfold T1;refine (St.start F).new λb2 F1 h=> ?_;have h:=h.push (A:=own pi 137 4 (tZ (([]:List Tmn).map Vb))) (H:=λ_=>I) (.inl ⟨rfl,rfl⟩) (λb hb=>absurd rfl hb) (λb o hb=>by cases hb) (au _);refine h.new λb3 F2 h=>h.put0 (w':= #[Sl.nil.v,Sl.nil.v]) rfl rfl (by simp [ak,nE]) λF3 h=> ?_;generalize hZ:([pt b2 (Y #[tS I 0 0,.slice I 0 0] 94)]:List (Ψ))=z0 at h;refine bC (λN i K=>AA N l b2 b3 _ i K) X.length (λi K=>∃(w:PH) (o:Sl),F.le w/\St w K (TW b3 o (List.replicate i (W9 1)) z0)) ⟨F,pi,au _,h⟩ ?_;rintro i F4 N hi ⟨G1,o,l1,h⟩ next;unfold AA;refine ⟨λg=> ?_,λe3=> ?_⟩
 ·have g:i<X.length:=by omega
  refine ⟨o,h.ld0 (i:=0) rfl,rfl,qS (y:=W9 1) (by rw [Xx];omega) h λG2 F5 o2 l2 h=> ?_⟩;rw [aC g];refine next _ g ⟨G2,o2,aa l1 l2,?_⟩;rw [List.replicate_succ'];exact h
 have:i=X.length:=by omega
 subst this;unfold Hm;refine ⟨o,h.ld0 (i:=0) rfl,rfl,qS (y:=W9 0) (by rw [Xx];omega) h λG2 F5 o2 l2 h=> ?_⟩;refine bC (λN i K=>Az N l b2 b3 _ i K) X.length (λi K=>∃(w:PH) (o:Sl),G1.le w/\St w K (TW b3 o (Y3 X.length++(X.take i).flatMap VT) z0)) ⟨G2,o2,l2,by rw [Am,List.flatMap_nil,yn];exact h⟩ ?_;clear h l2 next;rintro i F6 N1 hi ⟨G3,o3,l3,h⟩ next;have lG:=aa l1 l3;have e5:=hl.le lG;unfold Az;refine ⟨λg=> ?_,λe3=> ?_⟩
 ·have g:i<X.length:=by omega
  have hx:X[i]? =V X[i]:=N5 g;have a2:=hX _ (U9 g);have f9:=c6 _ (U9 g);have d0:=U9 g;generalize X[i]=x at hx a2 f9 d0;have g4:∀l m:List Tmn,l.length<=200000->m.length<=1000->(l++m).length<=300000:=λl m h1 h2=>by rw [tT];omega
  have hT:(Y3 X.length++(X.take i).flatMap VT).length<=100000:=by
   have h1:∀l:List (List ο),(∀y∈l,y.length<=100)->(l.flatMap VT).length<=600*l.length:=λl=>by
    induction l with
    |nil=>intro _;exact yv _
    |cons y l ih=>intro hy;have a:=ih λz hz=>hy z (by simp [hz]);have b:=C4 y;have c:=hy y (by simp);rw [Vx,tT,wc];omega
   have h2:=h1 (X.take i) λy hy=>c6 y (YI hy);rw [tT,tT,Xx];show X.length+1+_<=_;have:=List.length_take_le i X;omega
  have a9:(X.take (i+1)).flatMap VT=(X.take i).flatMap VT++VT x:=by rw [bo hx,XT,List.flatMap_singleton]
  have f6:=C4 x;generalize hW:Y3 X.length++(X.take i).flatMap VT=W at*;have j3:∀{w K:PH} {o':Sl},G3.le w->St w K (TW b3 o' (W++VT x) z0)->qR N1 l b2 b3 i (ZY F X) K:=λ{w K o'} l' h=>by unfold qR;rw [aC g];refine next _ g ⟨w,o',aa l3 l',?_⟩;rw [a9,<- xK,hW];exact h
  have a4:∀{w K:PH} {C:Addr->Prop},G3.le w->w.le K->(∀a s,RL w s x->(∀D,w.le D->D.cell (a.add (nT (i:Int)*1))=V (nE s))->C a)->Ix l (i:Int) C:=λ{w K C} l' h5 k=>by refine t6 (e5.le l') (by decide) (by omega) (by omega) λa c y hy a1 hc=> ?_;rw [N4,hx] at hy;cases hy;obtain ⟨s,rfl,hs⟩:=hc;exact k a s hs λD l=>aE (aN l a1) rfl
  have a8:∀{w:PH} {s:Sl} {q:Nat} {C:Addr->Prop},RL w s x->q<x.length->(∀a,(∀D,w.le D->D.cell (a.add (nT (q:Int)*1))=V (pe (x.getD q emp)))->C a)->Ix s (q:Int) C:=λ{w s q C} hs hq k=>by have es:=hs.len;refine t6 hs (by decide) (by omega) (by omega) λa c y hy a1 hc=>k a λD l=> ?_;rw [N4] at hy;obtain rfl:c= #[pe y]:=hc;rw [Q0,hy];exact aE (aN l a1) rfl
  refine a4 (au _) h.le λh8 f5 b9 f1=>⟨f5,f1 _ h.le,a8 (q:=0) b9 (by have:=a2.1;omega) λh4 f4=>⟨_,f4 _ h.le,?_⟩⟩;refine h.runv (AG _) λG4 F7 l4 h=>⟨_,rfl,o3,h.ld0 (i:=0) rfl,rfl,?_⟩;generalize B:(if x.getD 0 emp=U7 then (2:Int) else if x.getD 0 emp=yZ then 3 else 5)=kk;refine qS (y:=W9 kk) (by omega) h λG5 F8 o5 l5 h=> ?_;have M:=aa l4 l5;refine ⟨λh2=> ?_,λh2=>⟨λh3=> ?_,λh3=> ?_⟩⟩
  ·
   have ht:x.getD 0 emp=U7:=by refine Classical.byContradiction λhn=> ?_;rw [Υ hn] at B;split at B<;>omega
   have O:VT x=L3 (x.getD 1 emp):=by unfold VT;rw [Χ ht]
   have g3:=a2.2.1 ht;refine ⟨o5,h.ld0 (i:=0) rfl,a4 M h.le λg9 f7 d1 a3=>⟨f7,a3 _ h.le,a8 (q:=1) d1 (by omega) λh6 b6=>⟨_,b6 _ h.le,?_⟩⟩⟩;refine h.runv (cT _ _) λG6 F9 E h=>⟨_,rfl,b6 _ (aa E h.le),a3 _ (aa E h.le),h.ld0 (i:=0) rfl,?_⟩;refine h.runv (cT _ _) λG7 c3 l7 h=>⟨_,rfl,a3 _ (aa E (aa l7 h.le)),h.ld0 (i:=0) rfl,?_⟩;refine h.runv (cT _ _) λG8 c5 l8 h=>⟨_,rfl,a3 _ (aa E (aa l7 (aa l8 h.le))),h.ld0 (i:=0) rfl,rfl,rfl,rfl,?_⟩;refine h.newG λi0 G9 c2 l9 e7 _ h=> ?_;have e0:=aa E (aa l7 (aa l8 l9));refine vj (m:=[Ue 1 ⟨#[43]⟩,Ue 0 (x.getD 1 emp),Ue 7 ⟨#[59]⟩]) h (RdS.new (h.le _ _ e7) (by kernel_rfl) rfl (qX _)) (by rw [tT];show _+1+3<=_;omega) λc7 o6 h=>⟨a3 _ (aa e0 h.le),vh h λd4 h=> ?_⟩;refine j3 (aa M e0) (o':=o6) ?_;rw [O];rw [h2,xK] at h;exact h
  ·
   have ht:x.getD 0 emp≠U7/\x.getD 0 emp=yZ:=by
    by_cases e1:x.getD 0 emp=U7
    ·rw [Χ e1] at B;omega
    ·refine ⟨e1,Classical.byContradiction λhn=> ?_⟩;rw [Υ e1,Υ hn] at B;omega
   have O:VT x=[W9 3,Ue 0 (x.getD 1 emp),Ue 2 ⟨#[42]⟩,Ue 0 (x.getD 2 emp),Ue 7 ⟨#[59]⟩]:=by unfold VT;rw [Υ ht.1,Χ ht.2]
   have g3:=a2.2.2 ht.2;refine ⟨o5,h.ld0 (i:=0) rfl,a4 M h.le λg8 e8 c8 L=>⟨e8,L _ h.le,a8 (q:=1) c8 (by omega) λh7 g1=>⟨_,g1 _ h.le,?_⟩⟩⟩;refine a4 M h.le λh9 g2 b7 Q=>⟨g2,Q _ h.le,a8 (q:=2) b7 (by omega) λg7 a5=>⟨_,a5 _ h.le,?_⟩⟩;refine h.runv (cT _ _) λG6 F9 E h=>⟨_,rfl,a5 _ (aa E h.le),Q _ (aa E h.le),L _ (aa E h.le),h.ld0 (i:=0) rfl,?_⟩;refine h.runv (cT _ _) λG7 c3 l7 h=>⟨_,rfl,a5 _ (aa E (aa l7 h.le)),Q _ (aa E (aa l7 h.le)),L _ (aa E (aa l7 h.le)),h.ld0 (i:=0) rfl,?_⟩;have a7:=aa E l7;refine h.runv (cT _ _) λG8 c5 l8 h=>⟨_,rfl,Q _ (aa a7 (aa l8 h.le)),L _ (aa a7 (aa l8 h.le)),h.ld0 (i:=0) rfl,?_⟩;have b0:=aa a7 l8;refine h.runv (cT _ _) λG9 c2 l9 h=>⟨_,rfl,Q _ (aa b0 (aa l9 h.le)),L _ (aa b0 (aa l9 h.le)),h.ld0 (i:=0) rfl,rfl,rfl,rfl,rfl,?_⟩;refine h.newG λg5 Ga c7 la b8 _ h=> ?_;have b1:=aa b0 (aa l9 la);refine vj (m:=[Ue 0 (x.getD 1 emp),Ue 2 ⟨#[42]⟩,Ue 0 (x.getD 2 emp),Ue 7 ⟨#[59]⟩]) h (RdS.new (h.le _ _ b8) (by kernel_rfl) rfl (qX _)) (by rw [tT];show _+1+4<=_;omega) λd4 o6 h=>⟨Q _ (aa b1 h.le),L _ (aa b1 h.le),vh h λe9 h=> ?_⟩;refine j3 (aa M b1) (o':=o6) ?_;rw [O];rw [h3,xK] at h;exact h
  ·
   have ht:x.getD 0 emp≠U7/\x.getD 0 emp≠yZ:=by
    by_cases e1:x.getD 0 emp=U7
    ·rw [Χ e1] at B;omega
    ·by_cases e2:x.getD 0 emp=yZ
     ·rw [Υ e1,Χ e2] at B;omega
     ·exact ⟨e1,e2⟩
   have e6:kk=5:=by rw [Υ ht.1,Υ ht.2] at B;exact B.symm
   have O:VT x=[W9 5,Ue 3 ⟨#[40]⟩]++tP x.tail++[Ue 4 ⟨#[41]⟩]:=by unfold VT;rw [Υ ht.1,Υ ht.2]
   have i1:(tP x.tail).length<=600:=by rw [O,tT,tT] at f6;have:([W9 5,Ue 3 ⟨#[40]⟩]:List Tmn).length=2:=rfl;omega
   subst e6;refine ⟨o5,h.ld0 (i:=0) rfl,?_⟩;refine h.runv (cT _ _) λG6 F9 E h=>⟨_,rfl,h.ld0 (i:=0) rfl,rfl,?_⟩;refine qS (y:=Ue 3 ⟨#[40]⟩) (by rw [tT];show _+1<=_;omega) h λG7 c3 o7 l7 h=> ?_;have a7:=aa E l7;have b5:=aa M a7;refine ⟨o7,h.ld0 (i:=0) rfl,a4 b5 h.le λh0 a0 a6 b4=> ?_⟩;have es:=a6.len;have d3:=a6.cap;have g6:=a2.1;refine ⟨a0,b4 _ h.le,by omega,d3,?_⟩;have c4:RL G7 (Sl.cut a0 1 1 a0.len a0.cap) x.tail:=by have:=(RL.strs.1 a6).cut (l:=1) (r:=a0.len) (m:=a0.cap) (by omega) (qX _) d3;rw [Ww,xB] at this;refine RL.strs.2 ?_;rw [zc (by rw [W6,ub];omega),<- List.map_drop,List.drop_one] at this;exact this
   refine h.run (P:=λr w=>∃n,r=nE n/\RdS w n 4 (tZ ((tP x.tail).map Vb))) (e4 ⟨x,d0,ht⟩ (by rw [List.length_tail];omega) c4) λr G8 c5 hr l8 h=> ?_;obtain ⟨n8,rfl,c9⟩:=hr;have d2:n8.len=(tP x.tail).length:=by
    have:=c9.len;have h2:∀l:List Tmn,(tZ (l.map Vb)).length=l.length*4:=λl=>by
     induction l with
     |nil=>rfl
     |cons x l ih=>rw [xw,cH,tT,ih];show 4+_=(l.length+1)*4;omega
    rw [h2] at this;omega
   refine ⟨n8,rfl,b4 _ (aa l8 h.le),h.ld0 (i:=0) rfl,?_⟩;refine vj (m:=tP x.tail) h (c9.le h.le) (by rw [tT,tT,d2];show _+1+1+_<=_;omega) λc2 o8 h=>⟨b4 _ (aa l8 h.le),vh h λc7 h=> ?_⟩;refine ⟨o8,h.ld0 (i:=0) rfl,?_⟩;refine h.runv (cT _ _) λG9 d4 l9 h=>⟨_,rfl,h.ld0 (i:=0) rfl,rfl,?_⟩;refine qS (y:=Ue 4 ⟨#[41]⟩) (by rw [tT,tT,tT];show _+1+1+_<=_;omega) h λGa e9 oa la h=> ?_;refine j3 (aa b5 (aa l8 (aa l9 la))) (o':=oa) ?_;rw [O];simp only [xK] at h ⊢;exact h
 ·have:i=X.length:=by omega
  subst this;rw [wy] at h;unfold Hl
  have h:=h.pick (λi=>match i with|0=>0|1=>2|2=>1|i+3=>i+3) (Bs:=pt b3 (Y #[o3.v,Sl.nil.v] 94)::pt b2 (Y #[tS I 0 0,.slice I 0 0] 94)::[own o3 137 4 (tZ ((zM X).map Vb))]) (by
   intro i j hi hj e;simp only [wc,W7] at hi hj
   match i,j,hi,hj,e with
   |0,0,_,_,_=>rfl
   |1,1,_,_,_=>rfl
   |2,2,_,_,_=>rfl
   |0,1,_,_,e=>simp at e
   |0,2,_,_,e=>simp at e
   |1,0,_,_,e=>simp at e
   |1,2,_,_,e=>simp at e
   |2,0,_,_,e=>simp at e
   |2,1,_,_,e=>simp at e) (by
   intro i hi;rw [<- hZ];simp only [wc,W7] at hi
   match i,hi with
   |0,_=>rfl
   |1,_=>rfl
   |2,_=>rfl)
  refine ⟨_,rfl,h.whole0,h.put1 (w':= #[o3.v,Sl.nil.v]) rfl rfl (by simp [ak,nE]) λF7 h=>⟨_,rfl,h.whole1,?_⟩⟩;obtain ⟨G4,l4,f3,h⟩:=h.tail.tail.pinO;exact ⟨⟨o3,rfl,f3.le h.le⟩,aa lG (aa l4 h.le)⟩
end
theorem Hp:∀(l:List Nod) (a:Int) (e:Bool) (t:Int),ma a e l t->dY a e l t=mY
 |[],a,e,t,h=>by
  unfold ma at h;unfold dY;cases e with
  |true=>rw [Χ rfl] at h ⊢;exact ε h
  |false=>rw [Υ (by decide)] at h ⊢;exact ε h
 |n::l,a,e,t,h=>by unfold ma at h;rw [rG (λr=>Classical.byContradiction λg=>h.1 (.inl ⟨r,g⟩)) λg=>h.1 (.inr g)];exact Hp l _ _ _ h.2
section
variable {W:Nat->Int×Int} {gp:Nat->Int}
theorem yg:∀(l:List Ttr),(∀k∈l,∀a,∀x∈xy (xH W gp a k),∀h fr to,x=.lf h fr to->∃j,a<=j/\j<a+yr k/\fr=(W j).1/\to=(W j).2)->∀a,∀x∈ya (z9 W gp a l),∀h fr to,x=.lf h fr to->∃j,a<=j/\j<a+zi l/\fr=(W j).1/\to=(W j).2
 |[],_,a,x,g,_,_,_,_=>by unfold z9 ya at g;cases g
 |k::l,ih,a,x,g,h,fr,to,e=>by
  rw [z9,ya,vd] at g;unfold zi;rcases g with g|g
  ·obtain ⟨j,w,B,r⟩:=ih k (by simp) a x g h fr to e;exact ⟨j,w,by omega,r⟩
  ·obtain ⟨j,w,B,r⟩:=yg l (λk A=>ih k (by simp [A])) _ x g h fr to e;exact ⟨j,by omega,by omega,r⟩
theorem L5:∀(t:Ttr) (a:Nat),∀x∈xy (xH W gp a t),∀r fr to,x=.lf r fr to->∃j,a<=j/\j<a+yr t/\fr=(W j).1/\to=(W j).2:=Ttr.ind (λr a x g B fr to e=>by
  unfold xH xy at g;rw [vy] at g;rw [g] at e;cases e;unfold yr
  exact ⟨a,qX _,by omega,rfl,rfl⟩) λw h ih a x g r fr to e=>by
 rw [fi] at g;have A:xH W gp a (.nd w h)=.nd w (gp a) (gp (a+zi h)) (z9 W gp a h):=by rw [xH]
 rw [A] at g;rcases tD.1 g with rfl|g
 ·cases e
 ·unfold yr;exact yg h ih a x g r fr to e
end
section
variable {g:Gr} {k:Nat} {c:Int} {T:List Tmn} {m:Ttr} {tx:ο} {ws:List (Nat×Nat)}
structure GdT (g:Gr) (c:Int) (tx:ByteArray) (D:Dtr):Prop where
 f:dU g D
 n:szN D<=2000000
 e:X4 g c D=0
 l:Yc tx D=mY
theorem GdT.op {D:Dtr} (h:GdT g c tx D):Ws g c tx D=0:=by unfold Ws;rw [Υ (μ h.e),Χ h.l]
theorem vk {W:Nat->Int×Int} {gp:Nat->Int} {a:Nat}:szN (xH W gp a m)=yR m:=by unfold szN;rw [IJ,ub,DB]
theorem Hq (P:OkG g) (hi:Uh g c=mY) (w:wm g (wo c) ⟨mz,g.start⟩ m) (Q:yR m<=44537) (A:SpO T m tx ws):GdT g c tx (zd tx ws m):=by
 have G:=A.wd.wds;rw [A.len] at G;have H:=qdw (W:=XE ws) (gp:=VX ws tx.size) (n:=yr m) (Rc _ _ _) G m _ 0 w (by omega);refine ⟨λx r=>(H x r).1,by rw [vk];omega,?_,?_⟩
 ·unfold X4;have D:Xr g c=mY:=by unfold Xr;rw [hi,Bool.and_true];exact ε (w8.2 P)
  rw [Χ D,Χ];unfold vr;rw [VO,Vn];refine ⟨?_,λx r=> ?_⟩
  ·cases m with
   |lf B=>unfold wm at w;exact absurd w.1 (by simp)
   |nd M L=>unfold wm at w;obtain ⟨p,O,h,_⟩:=w;unfold zd xH Zl;dsimp only;rw [O];refine decide_eq_true ?_;have:=congrArg Sy.i h;exact this.symm
  ·obtain ⟨_,h,K⟩:=H x r;rw [VO];cases x with
   |lf B C to=>exact ⟨h,rfl⟩
   |nd M C to L=>obtain ⟨p,E,N⟩:=h;refine ⟨?_,Hp _ _ _ _ K⟩;unfold AR;dsimp only;rw [E];exact N
 ·unfold Yc;rw [Vn];intro x r;cases x with
  |nd=>rfl
  |lf B C to=>obtain ⟨j,_,h,K,E⟩:=L5 m 0 _ r B C to rfl;refine ε ?_;have J:ws[j]? =V (ws[j]'(by rw [A.len];omega)):=N5 _;rw [E,Ax J];have:=(A.wd.wd j _ J).2.1;show ((_:Nat):Int)<=(tx.size:Int);omega
mutual
def XS (S:Nat->ο) (a:Nat):Ttr->Ltr
 | .lf _=> .lf (S a)
 | .nd pr ks=> .nd pr (Y5 S a ks)
def Y5 (S:Nat->ο) (a:Nat):List Ttr->List Ltr
 |[]=>[]
 |n::l=>XS S a n::Y5 S (a+yr n) l
end
theorem Hr {W:Nat->Int×Int} {gp:Nat->Int} {t:Int->Int->ο} {S:Nat->ο} {n:Nat} (h:∀j,j<n->t (W j).1 (W j).2=S j):∀(l:List Ttr),(∀k∈l,∀a,a+yr k<=n->U6 t (xH W gp a k)=XS S a k)->∀a,a+zi l<=n->ii t (z9 W gp a l)=Y5 S a l
 |[],_,a,_=>by unfold z9 ii Y5;rfl
 |k::l,ih,a,ha=>by unfold zi at ha;rw [z9,ii,Y5,ih k (by simp) a (by omega),Hr h l (λk g=>ih k (by simp [g])) _ (by omega)]
theorem T7 {W:Nat->Int×Int} {gp:Nat->Int} {t:Int->Int->ο} {S:Nat->ο} {n:Nat} (h:∀j,j<n->t (W j).1 (W j).2=S j):∀(m:Ttr) (a:Nat),a+yr m<=n->U6 t (xH W gp a m)=XS S a m:=Ttr.ind (λB a r=>by
  unfold yr at r;unfold xH U6 XS
  rw [h a (by omega)]) λw g ih a r=>by
 unfold yr at r;have A:xH W gp a (.nd w g)=.nd w (gp a) (gp (a+zi g)) (z9 W gp a g):=by rw [xH]
 rw [A,U6,XS,Hr h g ih a r]
theorem Ht (h:SpO T m tx ws):U6 (vl tx) (zd tx ws m)=XS (λj=>(lvs T).getD j .empty) 0 m:=by refine T7 (n:=yr m) (λj A=> ?_) m 0 (by omega);have g:ws[j]? =V (ws[j]'(by rw [h.len];omega)):=N5 _;obtain ⟨B,w,r⟩:=h.wd.wd j _ g;rw [Ax g,Q0,r];rfl
theorem Rl (H:OkG g) {D:Dtr} (h:GdT g c tx D):LfT (vi g) D:=by
 intro x G w A to r e;have:=(A1 H h.f h.l).nd x G;subst e;obtain ⟨_,_,_,_,_,_,B,C⟩:=this;refine ⟨λhd=> ?_,λE=> ?_⟩
 ·exact B (by
   have:0<(ci g (.nd w A to r)).d.toNat:=hd
   omega)
 ·exact C (by
   have:0<(ci g (.nd w A to r)).u.toNat:=E
   omega)
end
section
variable {g h:Gr} {k:Nat}
theorem Hu (r:AC g.qa0):¬kU g:=λ⟨_,_,_,h⟩=>LW r h
end
theorem qfm:∃b z,SlT 144 30 1 b z:=⟨_,_,underlying144,aaH,aaO,rfl,by decide,by decide⟩
section
variable {F G:PH}
theorem qhG {s:Sl} {g:List ο} (hn:g.length<=100) (W:RL F s g):ν 63 #[s.v] F (ZT F g):=by
 obtain ⟨_,_,T⟩:=qfm;have es:=W.len;refine qfl ?_;unfold T4;have h:=(St.start F).nilOwn 30 1;refine gx (λN x v X=>AB N s _ x v X) g.length (λi o X=>∃(G:PH) (vs:List Γ),F.le G/\bS G ((g.take i).map λn=>[U7,n]) vs/\o.len=i/\St G X [own o 30 1 (tZ vs)]) pi ⟨F,[],au _,.nil,rfl,h⟩ ?_;rintro i o F1 N hi ⟨G1,vs,M,J,ho,h⟩ next;unfold AB;refine ⟨λA=> ?_,λK=> ?_⟩
 ·have A:i<g.length:=by omega
  refine t6 (W.le M) (by decide) (by omega) (by omega) λa c x w D hc=> ?_;rw [N4] at w;obtain rfl:c= #[pe x]:=hc;refine ⟨x,aE (aN h.le D) rfl,?_⟩;refine h.newG λH G2 F2 B O _ h=> ?_;refine h.push0 T (c:= #[nE (Sb H 2)]) rfl (by simp [ak,nE]) (by omega) λo2 G3 F3 E h a0=> ?_;rw [aC A];refine next _ _ A ⟨G3,vs++[#[nE (Sb H 2)]],aa M (aa B E),?_,by omega,?_⟩
  ·rw [bo w,yT];exact (J.le (aa B E)).append (.cons ⟨_,rfl,RL.strs.2 (RdS.new (E _ _ O) rfl rfl (qX _))⟩ .nil)
  ·rw [ba,cI];exact h
 ·have:i=g.length:=by omega
  subst this;rw [wy] at J;unfold Hn;obtain ⟨G2,B,L,h⟩:=h.pinO;have hl:RL G2 o (g.map λn=>[U7,n]):=⟨vs,J.le B,L⟩;have R:zM (g.map λn=>[U7,n])=tP g:=by
   unfold zM tP;rw [ub];congr 1;clear J hl hn W es hi ho next K;induction g with
   |nil=>rfl
   |cons n l ih=>rw [xw,Vx,Vx,ih];congr 1
  refine h.run (P:=λr G'=>∃n,r=nL #[nE n,Sl.nil.v]/\RdS G' n 4 (tZ ((zM (g.map λn=>[U7,n])).map Vb))) (qT hl (λx w=> ?_) (λx w=> ?_) (by rw [ub];exact hn) λ⟨x,w,h1,_⟩=> ?_) λr G3 F3 Q E h=> ?_
  ·obtain ⟨n,_,rfl⟩:=w9.1 w;exact ⟨by show 1<=2;decide,λ_=>qX _,λe=>absurd (show U7=yZ from e) (by decide)⟩
  ·obtain ⟨n,_,rfl⟩:=w9.1 w;show 2<=100;decide
  ·obtain ⟨n,_,rfl⟩:=w9.1 w;exact absurd rfl h1
  ·obtain ⟨n,rfl,C⟩:=Q;rw [R] at C;exact ⟨_,rfl,n,rfl,⟨n,rfl,C.le h.le⟩,aa M (aa B (aa E h.le))⟩
def xD:Rw:=⟨2,0,[],[],[]⟩
theorem fY:aS xD=aQ:=by unfold aS;show famG xD (cV xD)=_;unfold famG;rw [Υ (λh=>h.1 rfl)];rfl
theorem T8 {n:Sl} {l:List Tmn} (g:∀x∈l,x.rm=[]) (h:RdS F n 4 (tZ (l.map Vb))):RL F n l:=by
 refine ⟨l.map Vb,?_,h⟩;clear h;induction l with
 |nil=>exact .nil
 |cons x l ih=>rw [xw];refine .cons ⟨pi,rfl,?_⟩ (ih λy r=>g y (by simp [r]));rw [g x (by simp)];exact RL.nil _
abbrev sA:ByteArray:=⟨#[97]⟩
abbrev sB:ByteArray:=⟨#[98]⟩
abbrev sO:ByteArray:=⟨#[40]⟩
def T9:List (List ο):=[[U7,sA],[yZ,sA,sB]]
def Ua:List (List ο):=[[sO,sA],[yZ,sA,sB]]
def Zo:Ttr:=.nd 2 [.lf 1,.lf 0,.lf 7]
def Y7:Ttr:=.nd 3 [.lf 0,.lf 2,.lf 0,.lf 7]
def tQ:Ttr:=.nd 1 [.nd 1 [.nd 0 [],Zo],Y7]
def qU:Ttr:=.nd 1 [.nd 1 [.nd 0 [],.nd 5 [.lf 3,.nd 1 [.nd 0 [],Zo],.lf 4]],Y7]
theorem C5:(zM T9).map Tmn.key=Uz tQ:=by simp only [rK,gJ,jB,kQ,Ttr.kids,tQ,Zo,Y7];rfl
theorem vm:(zM Ua).map Tmn.key=Uz qU:=by simp only [rK,gJ,jB,kQ,Ttr.kids,qU,Zo,Y7];rfl
theorem AH:yR tQ=12:=by rw [<- eO,<- C5];rfl
theorem Hv:yR qU=17:=by rw [<- eO,<- vm];rfl
theorem Zn {g:Gr} {c:Cf} {pr:Int} {p:Pr} {ks:List Ttr} (h:VD g pr=V p) (r:(uc p.cond).ev c=mY) (w:TrL g c p.right ks):wm g c ⟨mz,p.left⟩ (.nd pr ks):=by unfold wm;exact ⟨p,h,rfl,r,w⟩
theorem XQ {g:Gr} {c:Cf} {h:Int} {t:Tk} (A:0<=h) (r:g.qa2[h.toNat]? =V t) (w:(uc t.cond).ev c=mY):wm g c ⟨mY,h⟩ (.lf h):=by unfold wm;have:=(N6.1 r).1;refine ⟨rfl,A,by omega,?_⟩;unfold eG;rw [r];exact w
theorem Xb {g:Gr} {c:Cf} {s:Sy} {r:List Sy} {k:Ttr} {ks:List Ttr} (h:wm g c s k) (w:TrL g c r ks):TrL g c (s::r) (k::ks):=by unfold TrL;exact ⟨h,w⟩
theorem dL (c:Cf):(uc dx).ev c=mY:=by rw [mM (t:=Tr.qa6 mY) trivial];rfl
theorem Om (c:Cf):wm aQ c ⟨mz,1⟩ Zo:=
 Zn (p:={(bz ⟨#[116,121,112,101]⟩ 1 [⟨mY,1⟩,⟨mY,0⟩,⟨mY,7⟩]) with sco:=⟨mz,2,1,0,0⟩}) rfl (dL c) (Xb (XQ (by decide) rfl (dL c)) (Xb (XQ (by decide) rfl (dL c)) (Xb (XQ (by decide) rfl (dL c)) .nil)))
theorem On (c:Cf):wm aQ c ⟨mz,1⟩ Y7:=
 Zn (p:={(bz ⟨#[112,111,105,110,116,101,114]⟩ 1 [⟨mY,0⟩,⟨mY,2⟩,⟨mY,0⟩,⟨mY,7⟩]) with sco:=⟨mz,3,2,1,2⟩}) rfl (dL c) (Xb (XQ (by decide) rfl (dL c)) (Xb (XQ (by decide) rfl (dL c)) (Xb (XQ (by decide) rfl (dL c)) (Xb (XQ (by decide) rfl (dL c)) .nil))))
theorem yh {c:Cf} {a b:Ttr} (g:wm aQ c ⟨mz,0⟩ a) (h:wm aQ c ⟨mz,1⟩ b):wm aQ c ⟨mz,0⟩ (.nd 1 [a,b]):=
 Zn (p:=bz ⟨#[109,111,114,101]⟩ 0 [⟨mz,0⟩,⟨mz,1⟩]) rfl (dL c) (Xb g (Xb h .nil))
theorem Hw (c:Cf):wm aQ c ⟨mz,0⟩ (.nd 0 []):=Zn (p:=bz ⟨#[101,109,112,116,121]⟩ 0 []) rfl (dL c) .nil
theorem Hx (c:Cf):wm (aS xD) c ⟨mz,0⟩ tQ:=by rw [fY];exact yh (yh (Hw c) (Om c)) (On c)
theorem Hy (c:Cf):wm (aS xD) c ⟨mz,0⟩ qU:=by rw [fY];exact yh (yh (Hw c) (Zn (p:={(bz ⟨#[105,110,110,101,114]⟩ 1 [⟨mY,3⟩,⟨mz,0⟩,⟨mY,4⟩]) with sco:=⟨mY,0,0,0,0⟩}) rfl (dL c) (Xb (XQ (by decide) rfl (dL c)) (Xb (yh (Hw c) (Om c)) (Xb (XQ (by decide) rfl (dL c)) .nil))))) (On c)
def ZP (x:Tmn):Bool:=x.rm.isEmpty && decide (x.tx.size<=1000) && if 0<=x.pr then decide (x.tx.size=0) else decide (0<x.tx.size)
theorem Oo {x:Tmn} (h:ZP x=mY):TmO x/\x.rm=[]:=by
 unfold ZP at h;simp only [VO,List.isEmpty_iff,δ] at h;obtain ⟨⟨w,B⟩,g⟩:=h;refine ⟨⟨by rw [w];exact yv _,by rw [w];intro r C;(cases C),B,λA=> ?_,λA=>⟨?_,w⟩⟩,w⟩
 ·rw [Υ (by omega)] at g;exact ζ g
 ·rw [Χ A] at g;have g:=ζ g;generalize x.tx=d at g;obtain ⟨d⟩:=d;have:d= #[]:=Array.eq_empty_of_size_eq_zero g;rw [this]
theorem Hz {F:PH} {n:Sl} {X:List (List ο)} {m:Ttr} (r:RdS F n 4 (tZ ((zM X).map Vb))) (h:(zM X).all ZP=mY) (w:(zM X).map Tmn.key=Uz m) (B:wm (aS xD) (wo 0) ⟨mz,0⟩ m) (A:yR m<=44537):TmV F (aS xD) 0 ⟨mz,0⟩ #[n.v,Sl.nil.v] (zM X) [] m:=by rw [Vn] at h;exact ⟨⟨n,pi,rfl,T8 (λx g=>(Oo (h x g)).2) r,RL.nil _⟩,w,B,A,λx g=>(Oo (h x g)).1,yv _,λx g=>(by cases g)⟩
def ZD (l:List (List tU×Bool)):Δ:=(List.range l.length).filter λi=>match l[i]? with
 |some x=> !x.2
 |none=>mz
section
variable {sp:Int->Spc} {tx:Int->Int->ο}
theorem C6:∀(l:List Dtr),(∀k∈l,LfT sp k)->(∀k∈l,∀seen,WW sp seen (U6 tx k)=List.zipWith (λs m=>(s,WA sp tx s m)) (yp sp tx seen k) (xy k))->∀seen,X6 sp seen (ii tx l)=List.zipWith (λs m=>(s,WA sp tx s m)) (US sp tx seen l) (ya l)
 |[],_,_,seen=>by unfold ii X6 US ya;rfl
 |n::l,hl,h,seen=>by rw [ii,X6,US,ya,List.zipWith_append (by rw [gc,dI]),h n (by simp),Bx n (hl n (by simp)),C6 l (λk g=>hl k (by simp [g])) λk g=>h k (by simp [g])]
theorem Rm:∀n:Dtr,LfT sp n->∀seen,WW sp seen (U6 tx n)=List.zipWith (λs m=>(s,WA sp tx s m)) (yp sp tx seen n) (xy n):=Dtr.ind (λC A to _ seen=>by unfold U6 WW yp xy;rfl) λB A to r ih h seen=>by have w:∀k∈r,LfT sp k:=λk g=>h.kid g;rw [U6,WW,nQ,fi,List.zipWith_cons_cons,R8 h.here,C6 r w (λk g=>ih k g (w k g))];rfl
theorem Oq {n:Dtr} (h:LfT sp n):VV sp tx n=ZD (WW sp [] (U6 tx n)):=by
 have g:=Rm (tx:=tx) n h [];unfold VV ZD;rw [g,List.length_zipWith,gc,dI,Nat.min_self];congr 1;funext i;rw [List.getElem?_zipWith'];unfold bK;cases (yp sp tx [] n)[i]? with
 |none=>rfl
 |some s=>
  cases (xy n)[i]? with
  |none=>rfl
  |some m=>rfl
end
def L6:Ltr:=XS (λj=>(lvs (zM T9)).getD j .empty) 0 tQ
def Ub:Ltr:=XS (λj=>(lvs (zM Ua)).getD j .empty) 0 qU
theorem Ro:Ys (vi aQ) L6=[(sA,1),(sB,2)]:=by kernel_rfl
theorem Rp:((WW (vi aQ) [] L6).map Prod.fst)[11]? =V [(sA,1)]:=by kernel_rfl
theorem Rq:ZD (WW (vi aQ) [] L6)=[]:=by kernel_rfl
theorem Rs:ZD (WW (vi aQ) [] Ub)=[12]:=by kernel_rfl
end
structure LwO (G:PH) (g:Gr) (k b6:Nat) (w:Γ) (c:Nat) (tx:ByteArray) (t:Sl) (D:Dtr):Prop where
 tab:Tab G
 q:G b6=V (Y w 39)
 gv:GV G w g
 gd:GdG g k
 ac:AC g.qa0
 c8:c<8
 inw:Uh g (c:Int)=mY
 rl:RL G t (vD D)
 td:GdT g (c:Int) tx D
 n:szN D<=44537
theorem LwO.le {G A:PH} {g:Gr} {k r:Nat} {w:Γ} {c:Nat} {tx:ο} {t:Sl} {D:Dtr} (h:LwO G g k r w c tx t D) (l:G.le A):LwO A g k r w c tx t D:=⟨h.tab.le l,l _ _ h.q,h.gv.le l,h.gd,h.ac,h.c8,h.inw,h.rl.le l,h.td,h.n⟩
section
variable {F G:PH} {g:Gr} {k b6 c:Nat} {w:Γ} {tx:ο} {t:Sl} {D m:Dtr} {i:Nat}
theorem LwO.len (h:LwO G g k b6 w c tx t D):t.len=szN D:=h.rl.len
theorem LwO.row (h:LwO G g k b6 w c tx t D) (l:G.le F):F.row (ou b6 0 I) w:=ai (l _ _ h.q)
theorem LwO.lft (h:LwO G g k b6 w c tx t D):LfT (vi g) D:=Rl h.gd.ok.ok h.td
theorem LwO.sct (h:LwO G g k b6 w c tx t D):ScT g tx D:=A1 h.gd.ok.ok h.td.f h.td.l
theorem LwO.exA (h:LwO G g k b6 w c tx t D) (r:bK D i=V m):exA g (c:Int) tx D (i:Int)=(yP (vi g) (vl tx) m,0):=by unfold Go.Proofs.YteilolbbgieadaaGreatDoor.exA;rw [Υ (μ h.td.op),Χ (by omega),N4,r]
theorem LwO.vsA (h:LwO G g k b6 w c tx t D) {l:List tU} (r:(yp (vi g) (vl tx) [] D)[i]? =V l):vsA g (c:Int) tx D (i:Int)=(l,0):=by unfold Go.Proofs.YteilolbbgieadaaGreatDoor.vsA;rw [Υ (μ h.td.op),Χ (by omega),N4,r]
theorem LwO.voA (h:LwO G g k b6 w c tx t D):voA g (c:Int) tx D=(VV (vi g) (vl tx) D,0):=by unfold Go.Proofs.YteilolbbgieadaaGreatDoor.voA;rw [Υ (μ h.td.op)]
theorem LwO.exports (h:LwO G g k b6 w c tx t D) (E:bK D i=V m):ν 11 #[nL w,ru .u64 (c:Int),pe tx,t.v,U (i:Int)] G λr A=>(∃s:Sl,r=pk #[s.v,U 0]/\RL A s (yP (vi g) (vl tx) m))/\G.le A:=
 have J:=h.c8
 (qhB h.tab h.gv h.gd h.td.f h.td.n h.rl (by omega) (by omega)).mono λr A ⟨⟨s,C,B⟩,H⟩=>by rw [h.exA E] at C B;exact ⟨⟨s,C,B⟩,H⟩
theorem LwO.visible (h:LwO G g k b6 w c tx t D) {l:List tU} (E:(yp (vi g) (vl tx) [] D)[i]? =V l):ν 13 #[nL w,ru .u64 (c:Int),pe tx,t.v,U (i:Int)] G λr A=>(∃s:Sl,r=pk #[s.v,U 0]/\RL A s l)/\G.le A:=
 have J:=h.c8
 (qhC h.tab h.gv h.gd h.td.f h.td.n h.rl (by omega) (by omega)).mono λr A ⟨⟨s,C,B⟩,H⟩=>by rw [h.vsA E] at C B;exact ⟨⟨s,C,B⟩,H⟩
theorem LwO.violations (h:LwO G g k b6 w c tx t D):ν 15 #[nL w,ru .u64 (c:Int),pe tx,t.v] G λr A=>(∃s:Sl,r=pk #[s.v,U 0]/\RL A s ((VV (vi g) (vl tx) D).map Vio.mk))/\G.le A:=
 have H:=h.c8
 (iP h.tab h.gv h.gd h.td.f h.td.n h.rl (by omega) (by omega)).mono λr A ⟨⟨s,C,B⟩,E⟩=>by rw [h.voA] at C B;exact ⟨⟨s,C,B⟩,E⟩
theorem LwO.kids (h:LwO G g k b6 w c tx t D) (B:bK D i=V m):ν 25 #[nL w,t.v,U (i:Int)] G λr A=>(∃s,r=pk #[nE s,nS mY]/\RL A s ((gH (bV i m.kids) m.kids.length).map Int.ofNat))/\G.le A:=FN h.tab h.gv h.gd h.td.f h.td.n h.rl B
theorem LwO.qa7 (h:LwO G g k b6 w c tx t D) (l:G.le F) (A:bK D i=V m) {K:Addr->Prop} (E:∀a,F.row (a.add (i*4)) m.root.arr->K a):∃a,t.qa5=V a/\0<=(i:Int)/\(i:Int)<(t.len:Int)/\K a:=by have J:=h.len;have hi:=d5 A;refine t6 (h.rl.le l) (by decide) (by omega) (by omega) λa H x B r C=> ?_;obtain rfl:H=x.arr:=C;rw [N4,gN A] at B;cases B;exact E a r
theorem LwO.prod (h:LwO G g k b6 w c tx t D) (B:bK D i=V m) (C:0<=m.root.pr):∃pr fr to ks p,m=.nd pr fr to ks/\VD g pr=V p/\p.sco=ci g m/\ks.length=p.right.length:=by
 have E:=(h.td.f.sub B).here;cases m with
 |lf H fr to=>exact absurd C (by show ¬(0:Int)<=-1;decide)
 |nd pr fr to ks=>
  obtain ⟨_,_,p,r,A⟩:=E;refine ⟨pr,fr,to,ks,p,rfl,r,?_,?_⟩
  ·unfold ci;dsimp only;rw [r];rfl
  ·rw [A,ub]
end
section
variable {F:PH} {v:Γ} {x:Rw} {j:Nat} {L N:Δ}
theorem Rt {G:PH} {r c:Nat} {w:Γ} {tx:ο} {t:Sl} {T:List Tmn} {D:List ο} {m:Ttr} {A:List (Nat×Nat)} (E:Tab G) (q:G r=V (Y w 39)) (h:Ho G x w c tx t T D m A):LwO G (aS x) (aS x).qa4.length r w c tx t (zd tx A m):=by obtain ⟨B,C⟩:=im x;have g:=h.sz;refine ⟨E,q,h.gv,⟨lD x,B.sz C,Hu (pv x)⟩,pv x,h.c8,h.inw,h.rl,Hq (lZ x) h.inw (by rw [B.start];exact h.tr) g h.sp,by rw [vk];exact g⟩
end
structure SwK (F0:PH) (b1:Nat) (w:Γ) (s0:ByteArray) (As:List (Ψ)) (F:PH) (x y z:Nat) (n:Sl) (p q r s:Bool):Prop where
 ex:∃G,F0.le G/\St G F As/\(p=mY->G x=V (Y #[pe s0,.string sA] 9))/\(q=mY->G y=V (Y #[pe yZ,pe sA,pe sB] 9))/\(r=mY->RL G (Sb z 2) [[s0,sA],[yZ,sA,sB]])/\(s=mY->RdS G n 4 (tZ ((zM [[s0,sA],[yZ,sA,sB]]).map Vb)))
 q1:F0 b1=V (Y w 39)
 hg:GV F0 w (aS xD)
section
variable {F0 F:PH} {b1:Nat} {w:Γ} {s0:ο} {As:List (Ψ)} {x y z:Nat} {n:Sl} {p q r s:Bool} {C:Nat->Ψ}
theorem SwK.row (H:SwK F0 b1 w s0 As F x y z n p q r s):F.row (Z b1 0) w:=by obtain ⟨G,l,h,_⟩:=H.ex;exact ai (h.le _ _ (l _ _ H.q1))
theorem SwK.n1 (H:SwK F0 b1 w s0 As F x y z n p q r s) (k:∀x F,SwK F0 b1 w s0 As F x y z n mY q r s->C x F):Nb F (Y #[pe s0,.string sA] 9) C:=by obtain ⟨G,l,h,L,A,E,K⟩:=H.ex;exact h.newG λb B D g J _ h=>k b D ⟨⟨B,aa l g,h,λ_=>J,λe=>g _ _ (A e),λe=>(E e).le g,λe=>(K e).le g⟩,H.q1,H.hg⟩
theorem SwK.n2 (H:SwK F0 b1 w s0 As F x y z n p q r s) (k:∀y F,SwK F0 b1 w s0 As F x y z n p mY r s->C y F):Nb F (Y #[pe yZ,pe sA,pe sB] 9) C:=by obtain ⟨G,l,h,D,L,E,K⟩:=H.ex;exact h.newG λb A B g J _ h=>k b B ⟨⟨A,aa l g,h,λe=>g _ _ (D e),λ_=>J,λe=>(E e).le g,λe=>(K e).le g⟩,H.q1,H.hg⟩
theorem SwK.n3 (H:SwK F0 b1 w s0 As F x y z n mY mY r s) (k:∀z F,SwK F0 b1 w s0 As F x y z n mY mY mY s->C z F):Nb F (Y #[nE (Sb x 2),nE (Sb y 3)] 30) C:=by obtain ⟨G,l,h,B,A,L,K⟩:=H.ex;refine h.newG λb D E g J _ h=>k b E ⟨⟨D,aa l g,h,λe=>g _ _ (B e),λe=>g _ _ (A e),λ_=> ?_,λe=>(K e).le g⟩,H.q1,H.hg⟩;refine ⟨[#[nE (Sb x 2)],#[nE (Sb y 3)]],.cons ⟨_,rfl,RL.strs.2 (RdS.new (g _ _ (B rfl)) rfl rfl (qX _))⟩ (.cons ⟨_,rfl,RL.strs.2 (RdS.new (g _ _ (A rfl)) rfl rfl (qX _))⟩ .nil),RdS.new J rfl rfl (qX _)⟩
theorem SwK.n4 (H:SwK F0 b1 w s0 [] F x y z n p q r s) (k:∀b F,SwK F0 b1 w s0 [pt b (Y #[tS I 0 0,.slice I 0 0,U 0,U 0] 89)] F x y z n p q r s->C b F):Nb F (Y #[tS I 0 0,.slice I 0 0,U 0,U 0] 89) C:=by obtain ⟨G,l,h,A⟩:=H.ex;exact h.new λb g h=>k b g ⟨⟨G,l,h,A⟩,H.q1,H.hg⟩
theorem SwK.st {C:Γ->Ψ} (K:L4 [s0,sA]) (H:SwK F0 b1 w s0 As F x y z n p q mY s) (k:∀n F,SwK F0 b1 w s0 As F x y z n p q mY mY->C #[nE n,Sl.nil.v] F):Ca 29 #[nE (Sb z 2)] F C:=by
 obtain ⟨G,l,h,N,J,E,Q⟩:=H.ex;refine h.run (P:=λr B=>∃n,r=nL #[nE n,Sl.nil.v]/\RdS B n 4 (tZ ((zM [[s0,sA],[yZ,sA,sB]]).map Vb))) (qT (E rfl) (λx g=> ?_) (λx g=> ?_) (by show 2<=100;decide) λ_=>qhG) λr B L M A h=> ?_
 ·simp only [tD,Wx,or_false] at g;rcases g with rfl|rfl
  ·exact K
  ·exact ⟨by decide,λ_=>by decide,λ_=>by decide⟩
 ·simp only [tD,Wx,or_false] at g;rcases g with rfl|rfl
  ·show 2<=100;decide
  ·show 3<=100;decide
 ·obtain ⟨O,rfl,D⟩:=M;exact ⟨_,rfl,k O L ⟨⟨B,aa l A,h,λe=>A _ _ (N e),λe=>A _ _ (J e),λe=>(E e).le A,λ_=>D⟩,H.q1,H.hg⟩⟩
def Zs (F0:PH) (s0:ο) (m:Ttr) (tx:ο) (t:Sl) (F:PH):Prop:=∃G ws,F0.le G/\SpO (zM [[s0,sA],[yZ,sA,sB]]) m tx ws/\RL G t (vD (zd tx ws m))/\St G F []
variable {m:Ttr} {K:ο->Sl->Ψ}
theorem SwK.spread (R:∀{G:PH} {n:Sl},RdS G n 4 (tZ ((zM [[s0,sA],[yZ,sA,sB]]).map Vb))->TmV G (aS xD) 0 ⟨mz,0⟩ #[n.v,Sl.nil.v] (zM [[s0,sA],[yZ,sA,sB]]) [] m) (H:SwK F0 b1 w s0 As F x y z n p q r mY) {C:ξ->Ψ}
  (k:∀(tx:ο) (B:Γ) (t:Sl) g G A,F0.le G->B.size=4->(∀x∈B.toList,ak x)->SpO (zM [[s0,sA],[yZ,sA,sB]]) m tx g->RL G t (vD (zd tx g m))->St G A As->C (pk #[pe tx,nL B,t.v]) A):ν 28 #[nL w,nL #[nE n,Sl.nil.v],nE pi] F C:=by
 obtain ⟨G,l,h,h1,h2,h3,h4⟩:=H.ex;refine h.run (P:=λr E=>∃(tx:ο) (p:Γ) (t:Sl) (g:List (Nat×Nat)),r=pk #[pe tx,nL p,t.v]/\p.size=4/\(∀x∈p.toList,ak x)/\SpO (zM [[s0,sA],[yZ,sA,sB]]) m tx g/\RL E t (vD (zd tx g m))) ((ox (N:=[]) (H.hg.le l) (lZ xD) (R (h4 rfl)) (RdS.nil _ _)).mono λr A ⟨a,b,c,d,X,D,M,J,L,Q⟩=>⟨⟨a,b,c,d,X,D,M,J,L⟩,Q⟩) λr E A W O h=> ?_;obtain ⟨tx,B,t,g,rfl,D,M,J,L⟩:=W;exact k tx B t g E A (aa l O) D M J L h
theorem SwK.sp1 {g:Nat} (E:∀{G:PH} {n:Sl},RdS G n 4 (tZ ((zM [[s0,sA],[yZ,sA,sB]]).map Vb))->TmV G (aS xD) 0 ⟨mz,0⟩ #[n.v,Sl.nil.v] (zM [[s0,sA],[yZ,sA,sB]]) [] m) (N:∀tx t F,Zs F0 s0 m tx t F->K tx t F) (H:SwK F0 b1 w s0 [pt g (Y #[tS I 0 0,.slice I 0 0,U 0,U 0] 89)] F x y z n p q r mY):
  ν 28 #[nL w,nL #[nE n,Sl.nil.v],nE pi] F λv F=>∃tx,∃p,∃t,v=pk #[pe tx,nL p,nE t]/\aA F (Z g 0) 4 p λF=>K tx t F:=
 H.spread E λtx A t J G _ l B O D M h=>⟨tx,A,t,rfl,h.put0 (w':=A) B rfl O λ_ h=>N _ _ _ ⟨G,J,l,D,M,h.tail⟩⟩
theorem SwK.sp0 (J:∀{G:PH} {n:Sl},RdS G n 4 (tZ ((zM [[s0,sA],[yZ,sA,sB]]).map Vb))->TmV G (aS xD) 0 ⟨mz,0⟩ #[n.v,Sl.nil.v] (zM [[s0,sA],[yZ,sA,sB]]) [] m) (N:∀tx t F,Zs F0 s0 m tx t F->K tx t F) (H:SwK F0 b1 w s0 [] F x y z n p q r mY):
  ν 28 #[nL w,nL #[nE n,Sl.nil.v],nE pi] F λv F=>∃tx,∃p,∃t,v=pk #[pe tx,nL p,nE t]/\Nb F (Y #[tS I 0 0,.slice I 0 0,U 0,U 0] 89) λA F=>aA F (Z A 0) 4 p λF=>K tx t F:=
 H.spread J λtx B t L G _ l D O E M h=>⟨tx,B,t,rfl,h.new λ_ _ h=>h.put0 (w':=B) D rfl O λ_ h=>N _ _ _ ⟨G,L,l,E,M,h.tail⟩⟩
theorem HB:Uh (aS xD) ((0:Nat):Int)=mY:=by refine GX (lD xD) (Nat.pow_pos (by decide)) ?_;rw [fY];exact dL _
theorem C7 {G:PH} {t:Sl} {g:List (Nat×Nat)} {tx:ο} {T:List Tmn} (E:Tab G) (q1:G b1=V (Y w 39)) (L:GV G w (aS xD)) (J:SpO T m tx g) (H:RL G t (vD (zd tx g m))) (h:wm (aS xD) (wo 0) ⟨mz,0⟩ m) (B:yR m<=44537):LwO G (aS xD) (aS xD).qa4.length b1 w 0 tx t (zd tx g m):=by obtain ⟨A,D⟩:=im xD;exact ⟨E,q1,L,⟨lD xD,A.sz D,Hu (pv xD)⟩,pv xD,by decide,HB,H,Hq (lZ xD) HB (by rw [A.start];exact h) B J,by rw [vk];exact B⟩
theorem Rv {t u:Sl} {tx ty:ο} {D E:Dtr} {k:Nat} {G:PH} (H:LwO G (aS xD) k b1 w 0 tx t D) (hE:LwO G (aS xD) k b1 w 0 ty u E) (lF:F0.le G) (h:St G F []) (x1:yP (vi (aS xD)) (vl tx) D=[(sA,1),(sB,2)]) (x2:VV (vi (aS xD)) (vl tx) D=[]) (x3:VV (vi (aS xD)) (vl ty) E=[12]) (x4:szN D=12) (x5:(yp (vi (aS xD)) (vl tx) [] D)[11]? =V [(sA,1)]) (x6:∃y:Nod,(vD E)[12]? =V y/\y.pr=3):
  C1 b1 tx t ty u (RT F0) F:=by
 have hv:=H.gv.size;unfold C1;refine ⟨w,hv,H.row h.le,?_⟩;refine h.run (P:=λr O=>∃s:Sl,r=pk #[s.v,U 0]/\RL O s (yP (vi (aS xD)) (vl tx) D)) (H.exports (i:=0) (fF D)) λr G1 F1 R l1 h=> ?_;obtain ⟨sa,rfl,ha⟩:=R;refine ⟨sa,0,rfl,w,hv,H.row (aa l1 h.le),?_⟩;refine h.run (P:=λr O=>∃s:Sl,r=pk #[s.v,U 0]/\RL O s ((VV (vi (aS xD)) (vl tx) D).map Vio.mk)) (H.le l1).violations λr G2 F2 R l2 h=> ?_;obtain ⟨sb,rfl,hb⟩:=R;have a2:=aa l1 l2;refine ⟨sb,0,rfl,w,hv,H.row (aa a2 h.le),?_⟩;refine h.run (P:=λr O=>∃s:Sl,r=pk #[s.v,U 0]/\RL O s ((VV (vi (aS xD)) (vl ty) E).map Vio.mk)) (hE.le a2).violations λr G3 F3 R l3 h=> ?_;obtain ⟨sc,rfl,X⟩:=R;have a0:=aa a2 l3;rw [x3] at X;rw [x2] at hb;rw [x1] at ha;have ec:=X.len;have eb:=hb.len;have et:=H.len;rw [x4] at et;have ec:sc.len=1:=ec;have eb:sb.len=0:=eb;refine ⟨sc,0,rfl,λg=>absurd (by rw [ec];rfl) g,λ_=>⟨w,hv,H.row (aa a0 h.le),?_⟩⟩;have b2:i64.wrap ((t.len:Int) - 1)=((11:Nat):Int):=by rw [et];decide
 rw [b2];refine h.run (P:=λr O=>∃s:Sl,r=pk #[s.v,U 0]/\RL O s [(sA,(1:Int))]) ((H.le a0).visible x5) λr G4 F4 R l4 h=> ?_;obtain ⟨sv,rfl,b4⟩:=R;have b5:=aa a0 l4;refine ⟨sv,0,rfl,rfl,rfl,h.newG λM G5 F5 l5 b6 _ h=> ?_⟩;have b3:=aa b5 l5;have a5:RL G5 (Sb M 2) ([(sA,1),(sB,2)]:List tU):=RL.nams.2 (RdS.new b6 (by kernel_rfl) rfl (qX _));refine ⟨λ_=> ?_,λg=>absurd rfl g⟩;refine h.runv (v:=nS mY) ((i6 (ha.le (aa l2 (aa l3 (aa l4 l5)))) a5 (by show 2<=_;decide)).mono λr F' ⟨Q,W⟩=>⟨by rw [Q,ε rfl],by rw [W];exact au _⟩) λG6 F6 l6 h=>⟨_,rfl,λ_=> ?_,λg=>(by cases g)⟩;have a4:=aa b3 l6;refine ⟨λ_=>⟨λ_=>⟨λ_=> ?_,λg=>absurd rfl g⟩,λg=>absurd (by rw [eb];rfl) g⟩,λg=>absurd rfl g⟩;have b0:=X.le (aa l4 (aa l5 l6));have a1:∀{C:Addr->Prop},(∀a,F6.row (a.add (nT (0:Int)*3)) #[U 6,U ((12:Nat):Int),U 0]->C a)->Ix sc (0:Int) C:=λ{C} k=>by refine t6 b0 (by decide) (by decide) (by omega) λa c y hy J X=>k a ?_;cases hy;obtain rfl:c=_:=X;exact aN h.le J
 refine a1 λc3 a9=>⟨6,aE a9 rfl,λ_=> ?_,λg=>absurd rfl g⟩;refine a1 λb8 a7=>⟨0,aM a7 (i:=2) rfl,λ_=> ?_,λg=>absurd rfl g⟩;refine a1 λc2 a8=>⟨_,aM a8 (i:=1) rfl,?_⟩;obtain ⟨y,hy,b7⟩:=x6;have eu:=hE.len;have N:=(N6.1 hy).1;have N:12<szN E:=N;refine t6 ((hE.rl.le a4)) (by decide) (by omega) (by omega) λb9 cc y' a6 J X=> ?_;rw [N4,hy] at a6;cases a6;obtain rfl:cc=y.arr:=X;refine ⟨y.pr,aE (aN h.le J) rfl,λ_=> ?_,λg=>absurd b7 g⟩;refine ⟨λ_=> ?_,λg=>absurd rfl g⟩;refine ⟨by decide,by show 1<=2;decide,?_⟩;have a3:RL G6 (Sl.cut (Sb M 2) 2 0 1 (Sb M 2).cap) ([(sA,1)]:List tU):=by have:=(RL.nams.1 (a5.le l6)).cut (l:=0) (r:=1) (m:=(Sb M 2).cap) (yv _) (by show 1<=2;decide) (by show 1<=2;decide);rw [V9,Vf,VP,Ww] at this;exact RL.nams.2 this
 refine h.runv (v:=nS mY) ((i6 (b4.le (aa l5 l6)) a3 (by show 1<=_;decide)).mono λr F' ⟨Q,W⟩=>⟨by rw [Q,ε rfl],by rw [W];exact au _⟩) λG7 F7 l7 h=>⟨_,rfl,λ_=> ?_,λg=>(by cases g)⟩;have L:=aa a4 l7;refine ⟨w,hv,H.row (aa L h.le),?_⟩;have B:=H.le L;refine h.runv (v:=nS mY) ((ku B.tab B.gv B.gd B.td.f B.td.n B.rl (by decide) (by decide)).mono λr F' ⟨Q,W⟩=>⟨by rw [Q];rw [show voA (aS xD) 0 tx D=_ from B.voA,x2];rfl,W⟩) λG8 F8 l8 h=>⟨_,rfl,λ_=> ?_,λg=>(by cases g)⟩;refine ⟨w,hv,H.row (aa L (aa l8 h.le)),?_⟩;have A:=hE.le (aa L l8);refine h.runv (v:=nS mz) ((ku A.tab A.gv A.gd A.td.f A.td.n A.rl (by decide) (by decide)).mono λr F' ⟨Q,W⟩=>⟨by rw [Q];rw [show voA (aS xD) 0 ty E=_ from A.voA,x3];rfl,W⟩) λG9 F9 l9 h=>⟨_,rfl,rfl,aa lF (aa L (aa l8 (aa l9 h.le)))⟩
theorem HD {G:PH} {n:Sl} (h:RdS G n 4 (tZ ((zM [[U7,sA],[yZ,sA,sB]]).map Vb))):TmV G (aS xD) 0 ⟨mz,0⟩ #[n.v,Sl.nil.v] (zM [[U7,sA],[yZ,sA,sB]]) [] tQ:=Hz h (by decide) C5 (Hx _) (by rw [AH];decide)
theorem HE {G:PH} {n:Sl} (h:RdS G n 4 (tZ ((zM [[sO,sA],[yZ,sA,sB]]).map Vb))):TmV G (aS xD) 0 ⟨mz,0⟩ #[n.v,Sl.nil.v] (zM [[sO,sA],[yZ,sA,sB]]) [] qU:=Hz h (by decide) vm (Hy _) (by rw [Hv];decide)
theorem qcU {G:PH} {t:Sl} {tx:ο} {J:List (Nat×Nat)} (P:Tab G) (q1:G b1=V (Y w 39)) (E:GV G w (aS xD)) (lF:F0.le G) (O:SpO (zM [[U7,sA],[yZ,sA,sB]]) tQ tx J) (X:RL G t (vD (zd tx J tQ))) (h:St G F []):C2 b1 tx t (RT F0) F:=by
 have hv:=E.size;unfold C2;have H:SwK G b1 w sO [] F 0 0 0 pi mz mz mz mz:=⟨⟨G,au _,h,λe=>(by cases e),λe=>(by cases e),λe=>(by cases e),λe=>(by cases e)⟩,q1,E⟩;have Q:∀A u F,Zs G sO qU A u F->C1 b1 tx t A u (RT F0) F:=λA u F ⟨G',vs,l,B,hu,h⟩=>by
  have R:=C7 (P.le l) (l _ _ q1) (E.le l) O (X.le l) (Hx _) (by rw [AH];decide);have N:=C7 (P.le l) (l _ _ q1) (E.le l) B hu (Hy _) (by rw [Hv];decide);have M:=R.lft;have W:=N.lft;have L:U6 (vl tx) (zd tx J tQ)=L6:=Ht O;have t2:U6 (vl A) (zd A vs qU)=Ub:=Ht B;refine Rv R N (aa lF l) h ?_ ?_ ?_ ?_ ?_ ?_
  ·rw [<- Bx _ M,L,fY];exact Ro
  ·rw [Oq M,L,fY];exact Rq
  ·rw [Oq W,t2,fY];exact Rs
  ·rw [vk,AH]
  ·rw [<- R9 _ M,L,fY];exact Rp
  ·have D:=vm;have g:(Uz qU)[12]? =V (3,-1):=by rw [<- D];rfl
   rw [<- wh 0] at g;rw [show zd A vs qU=xH _ _ 0 qU from rfl,IJ];rw [yc] at g ⊢;obtain ⟨y,hy,D⟩:=Zd.1 g;rw [hy];refine ⟨_,rfl,?_⟩;obtain ⟨y,a⟩:=y;cases y with
   |lf tk=>exact absurd (congrArg Prod.fst D) (by show ¬(-1:Int)=3;decide)
   |nd pr ks=>unfold xH;exact congrArg Prod.fst D
 refine ⟨w,hv,H.row,?_⟩;have h0:L4 [sO,sA]:=⟨by decide,λ_=>by decide,λe=>absurd (show sO=yZ from e) (by decide)⟩
 repeat' first
  |exact SwK.sp0 HE Q H
  |exact SwK.sp1 HE Q H
  |refine ⟨H.row,?_⟩
  |refine And.intro ?_ ?_
  |refine H.n1 λx F H=> ?_
  |refine H.n2 λy F H=> ?_
  |refine H.n3 λz F H=> ?_
  |refine H.n4 λb F H=> ?_
  |refine H.st h0 λn F H=> ?_
theorem qhr (hT:Tab F):ν 9 #[] F (RT F):=by
 refine cQ9 ?_;unfold Z0;refine (St.start F).run (P:=λr M=>∃w,r=nL w/\GV M w aQ) (ga F) λr G1 F1 W O h=> ?_;obtain ⟨w,rfl,B⟩:=W;rw [<- fY] at B;refine ⟨w,rfl,?_⟩;refine h.var B.st (λb1 G F2 L q1 h=> ?_) rfl B.size;have g:=aa O L;have A:=B.le L;have D:=hT.le g;have H:SwK G b1 w U7 [] F2 0 0 0 pi mz mz mz mz:=⟨⟨G,au _,h,λe=>(by cases e),λe=>(by cases e),λe=>(by cases e),λe=>(by cases e)⟩,q1,A⟩;have N:∀E t J,Zs G U7 tQ E t J->C2 b1 E t (RT F) J:=λE t J ⟨M,ws,l,X,Q,h⟩=>qcU (D.le l) (l _ _ q1) (A.le l) (aa g l) X Q h;refine ⟨w,B.size,H.row,?_⟩;have R:L4 [U7,sA]:=⟨by decide,λ_=>by decide,λe=>absurd (show U7=yZ from e) (by decide)⟩
 repeat' first
  |exact SwK.sp0 HD N H
  |exact SwK.sp1 HD N H
  |refine ⟨H.row,?_⟩
  |refine And.intro ?_ ?_
  |refine H.n1 λx F H=> ?_
  |refine H.n2 λy F H=> ?_
  |refine H.n3 λz F H=> ?_
  |refine H.n4 λb F H=> ?_
  |refine H.st R λn F H=> ?_
end
section
variable {F:PH} {v:Γ} {x:Rw} {j:Nat} {L N:Δ}
theorem FH {F0:PH} {K:Bool->Nat->Int->ο->Sl->Ψ} (X:Tab F) (R:InV F v x j L N) (O:F0.le F)
  (k:∀{G W:PH} {k' A c:Nat} {w:Γ} {tx:ο} {t:Sl} {m:Ttr} {Q:List (Nat×Nat)},F0.le G->LwO G (aS (yf x)) k' A w c tx t (zd tx Q m)->St G W []->K mY A (c:Int) tx t W):
  Nb F (Y v 28) λb2 F=>ud 9 #[] F λs F=>Lr F 8 (Z b2 0) λE=>ν 10 #[nL E] F λr F=>∃a,∃c,∃tx,∃t,∃ok,r=pk #[nL a,ru .u64 c,pe tx,nE t,nS ok]/\Nb F (Y zG 39) λA F=>aA F (Z A 0) 9 a λF=>Bb (!ok) (RT F0 (nS s) F) (K s A c tx t F):=by
 have hv:v.size=8:=by obtain ⟨_,_,_,_,_,_,_,rfl,_⟩:=R.ex;rfl
 refine (St.start F).newG λb2 G1 F1 J q2 _ h=> ?_;refine h.runv (qhr (X.le J)) λG2 F2 M h=>⟨_,rfl,v,hv,ai (h.le _ _ (M _ _ q2)),?_⟩;have C:=aa J M;refine h.run (P:=λr G'=>Rj G2 (yf x) r G') (AD (R.le C)) λr G3 F3 hr l3 h=> ?_;obtain ⟨w,c,D,c8,hc⟩:=hr;have g:=aa C l3;rcases hc with ⟨tx,t,rfl⟩|⟨tx,t,T,tl,m,Q,rfl,hG⟩
 ·refine ⟨_,_,_,_,_,rfl,?_⟩;refine h.var D.st (λA G4 F4 B q6 h=> ?_) rfl D.size;exact ⟨λ_=>⟨rfl,aa O (aa g (aa B h.le))⟩,λH=>(by cases H)⟩
 ·refine ⟨_,_,_,_,_,rfl,?_⟩;refine h.var D.st (λA G4 F4 B q6 h=> ?_) rfl D.size;exact ⟨λH=>(by cases H),λ_=>k (aa O (aa g B)) (Rt (X.le (aa g B)) q6 (hG.le B)) h⟩
end
theorem AI {n i:Nat} (h:i<n):∃r,List.range n=List.range i++i::r:=by
 refine ⟨(List.range n).drop (i+1),?_⟩;have hi:i<(List.range n).length:=by rw [V4];exact h
 have e:=WI i (List.range n);rw [Xi hi,List.take_range,X2 (by omega)] at e;simpa using e.symm
theorem L7 {P:Nat->Bool} {n i:Nat} (h:i<n) (g:P i=mY):((List.range n).filter P)[((List.range i).filter P).length]? =V i:=by obtain ⟨r,e⟩:=AI h;rw [e,List.filter_append,Zb g,UR (qX _),XL];rfl
theorem ug {P:Nat->Bool} (i:Nat):((List.range (i+1)).filter P).length=((List.range i).filter P).length+if P i=mY then 1 else 0:=by
 rw [YM,List.filter_append,tT];congr 1;by_cases h:P i=mY
 ·rw [Χ h,Zb h];rfl
 ·rw [Υ h,List.filter_cons_of_neg h];rfl
theorem qV {s:ο}:∀(a b:List tU),UT (·≠0) (a++b)->bF s b≠0->bF s (a++b)=bF s b
 |[],_,_,_=>rfl
 |x::a,b,h,hb=>by have g:UT (·≠0) (a++b):=λy r=>h y (by simp only [zK,tD];exact .inr r);have ih:=qV a b g hb;rw [zK,r7 g,ih,Χ hb]
section
variable {F:PH} {ps:Sl} {g:Gr} {pr:Int} {p:Pr}
theorem qcV (r:RL F ps g.qa0) (E:VD g pr=V p) {K:Addr->Prop} (k:∀a A B w,F.row (a.add (nT pr*13)) (p.arr A B w)->K a):Ix ps pr K:=by obtain ⟨D,M,H⟩:=bA E;have L:=r.len;refine t6 r (by decide) D (by omega) λa J q C h G=> ?_;rw [H] at C;cases C;obtain ⟨A,B,w,rfl,_⟩:=G;exact k a A B w h
theorem Ry {a:Addr} {A r w:Sl} (h:F.row a (p.arr A r w)):F.row (a.add 8) p.sco.arr:=pZ h rfl
theorem HG (h:VD g pr=V p):vi g pr=⟨p.sco.o,p.sco.d.toNat,p.sco.k,p.sco.u.toNat,p.sco.a.toNat⟩:=by unfold vi;rw [h];rfl
theorem Rz (r:OkG g) (q:Int) (h:0<(vi g q).decl):1<=(vi g q).kind/\(vi g q).kind<=7:=by
 unfold vi at h ⊢;cases hp:VD g q with
 |none=>simp only [hp] at h;exact absurd h (by decide)
 |some x=>
  simp only [hp] at h ⊢;have hd:=(H0 r (vQ (bA hp).2.2)).2.1;have h:0<x.sco.d.toNat:=h;show 1<=x.sco.k/\x.sco.k<=7;rcases hd with ⟨a,_⟩|⟨_,_,_,a,b⟩
  ·omega
  ·exact ⟨a,b⟩
end
section
variable {G F:PH} {g:Gr} {k b6 c:Nat} {w:Γ} {tx:ο} {t:Sl} {D m:Dtr} {i:Nat}
theorem LwO.seen (h:LwO G g k b6 w c tx t D) (hi:i<szN D):∃l,(yp (vi g) (vl tx) [] D)[i]? =V l/\l.length<=44537/\UT (λk=>1<=k/\k<=7) l:=by
 have A:i<(yp (vi g) (vl tx) [] D).length:=by rw [gc];exact hi
 have r:=N5 A;have E:=h.n;refine ⟨_,r,?_,?_⟩
 ·have:=Ia D [] i _ r;have H:([]:List tU).length=0:=rfl;omega
 ·exact qdA (K:=λk=>1<=k/\k<=7) (OJ λq B=>Rz h.gd.ok.ok q B) D [] (λx C=>by cases C) _ (U9 A)
def vp (g:Gr) (tx:ο) (D:Dtr) (i:Nat):Bool:=match (yp (vi g) (vl tx) [] D)[i]?,bK D i with
 |some s,V m=> !WA (vi g) (vl tx) s m
 |_,_=>mz
theorem Ot:VV (vi g) (vl tx) D=(List.range (szN D)).filter (vp g tx D):=rfl
theorem qcW {l:List tU} (h:(yp (vi g) (vl tx) [] D)[i]? =V l) (r:bK D i=V m):vp g tx D i= !WA (vi g) (vl tx) l m:=by unfold vp;rw [h,r]
end
section
variable {F:PH} {v:Γ} {x:Rw} {j:Nat} {L N:Δ}
theorem HH {a k:Int} (h:0<=a) (B:a<=255) (r:0<=k) (C:k<=7):(sq (Int.fdiv a (2 ^ (min (nT (u64.wrap k)) (i64).bits))) 2=1)↔WF a.toNat k=mY:=by
 have A:u64.wrap k=k:=by unfold IntKind.wrap;simp [IntKind.signed,IntKind.bits];omega
 rw [A];obtain ⟨n,rfl⟩:=Xw h;obtain ⟨q,rfl⟩:=Xw r;rw [N4,N4,show min q (i64).bits=q from X2 (by show q<=64;omega)];unfold WF;rw [N4,δ];have w:(0:Int)<=2 ^ q:=by exact_mod_cast yv (2 ^ q)
 have g:Int.fdiv (n:Int) (2 ^ q)=((n / 2 ^ q:Nat):Int):=by
  rw [YB _ w]
  push_cast
  rfl
 rw [g,Xu (Int.natCast_nonneg _)];generalize n / 2 ^ q=z;omega
theorem qhk (hT:Tab F) (hx:InV F v x j L N):ν 7 #[nL v] F (RT F):=by
 refine cQ7 ?_;unfold ZZ;refine FH hT hx (au _) λ{G B k' b6 c w C t m0 ws} lF W h=> ?_;generalize zd C ws m0=D at W;generalize aS (yf x)=g at W;have g6:=W.len;have j1:=W.n;have hv:=W.gv.size;refine ⟨w,hv,W.row h.le,?_⟩;refine h.run (P:=λr E=>∃s:Sl,r=pk #[s.v,U 0]/\RL E s ((VV (vi g) (vl C) D).map Vio.mk)) W.violations λr G1 F1 hr l1 h=> ?_;obtain ⟨sv,rfl,b9⟩:=hr;refine ⟨sv,0,rfl,λhn=>absurd rfl hn,λ_=> ?_⟩;have b0:=b9.len;rw [ub] at b0;have f3:=W.le l1;refine gx (λN1 a v B=>Hj N1 mY b6 (c:Int) C t sv _ a v B) (szN D) (λi a B=>∃E:PH,G1.le E/\a=(((List.range i).filter (vp g C D)).length:Int)/\St E B []) (0:Int) ⟨G1,au _,rfl,h⟩ ?_;rintro i a F2 N1 hi ⟨G2,l2,rfl,h⟩ next;unfold Hj;have R:=f3.le l2;refine ⟨λJ=> ?_,λh8=> ?_⟩
 rotate_left
 ·have:i=szN D:=by omega
  subst this;unfold Ok;refine ⟨λ_=>⟨?_,aa lF (aa l1 (aa l2 h.le))⟩,λhn=>(by cases hn)⟩;rw [Ot] at b0;rw [ε (by rw [b0])]
 have J:i<szN D:=by omega
 obtain ⟨m,hm⟩:=gO J;obtain ⟨l,hl,h7,d1⟩:=W.seen J;have a4:=qcW hl hm;have j2:((List.range i).filter (vp g C D)).length<=i:=by have:=Zf (vp g C D) (List.range i);rwa [V4] at this
 have a9:∀{E B:PH},G2.le E->vp g C D i=mz->St E B []->oA N1 mY b6 (c:Int) C t sv (i:Int) (((List.range i).filter (vp g C D)).length:Int) (RT F) B:=λl' e h=>by unfold oA;rw [aC J];refine next _ _ J ⟨_,aa l2 l',?_,h⟩;rw [ug,e];rfl
 have e6:∀{E B:PH},G2.le E->vp g C D i=mY->St E B []->oA N1 mY b6 (c:Int) C t sv (i:Int) (i64.wrap ((((List.range i).filter (vp g C D)).length:Int)+1)) (RT F) B:=λl' e h=>by unfold oA;rw [aC J,aC (n:=50000) (by omega) (by omega)];refine next _ _ J ⟨_,aa l2 l',?_,h⟩;rw [ug,e];rfl
 refine R.qa7 h.le hm λj0 f5=>⟨_,aE f5 rfl,λc4=> ?_,λi3=> ?_⟩
 ·refine a9 (au _) ?_ h;rw [a4];cases m with
  |lf=>rfl
  |nd pr fr to ks=>obtain ⟨_,_,p,hp,_⟩:=(W.td.f.sub hm).here;exact absurd (bA hp).1 (Int.not_le.2 c4)
 obtain ⟨pr,fr,to,ks,p,rfl,hp,f7,_⟩:=W.prod hm (by omega);obtain ⟨_,s2,s3,s4,_,_,_,s8⟩:=W.sct.nd _ (dn hm);rw [<- f7] at s2 s3 s4 s8;have i1:=R.gv;obtain ⟨cs,n,tk,s,ps,lv,f,rfl,hs⟩:=R.gv;have hq:=R.q;have b5:∀{E B:PH} {K:Addr->Prop},G2.le E->E.le B->(∀a,B.row ((a.add (nT pr*13)).add 8) p.sco.arr->K a)->Ix ps pr K:=λ{E B K} l' f1 k=>qcV (hs.p.le (aa l' f1)) hp λa rr nn ll A=>k a (Ry A);refine ⟨ps,ld (h.le _ _ hq) rfl,R.qa7 h.le hm λj5 g5=>⟨pr,aE g5 rfl,b5 (au _) h.le λi4 e4=>⟨p.sco.u,aM e4 (i:=3) rfl,λf4=> ?_,λf4=> ?_⟩⟩⟩
 ·refine a9 (au _) ?_ h;rw [a4];unfold WA;dsimp only;rw [HG hp,if_pos (by show p.sco.u.toNat=0;omega)];rfl
 obtain ⟨H,a0,e2⟩:=s8 (by omega);have a0:ks[p.sco.u.toNat - 1]? =V H:=a0;have d2:=(N6.1 a0).1;have h0:ks.length<=44537:=by have h1:=sub_le hm;have h2:=ib ks;have h3:=cL (.nd pr fr to ks);have h4:(Dtr.nd pr fr to ks).kids=ks:=rfl;rw [h4] at h3;omega
 refine ⟨ps,ld (h.le _ _ hq) rfl,R.qa7 h.le hm λh9 f6=>⟨pr,aE f6 rfl,b5 (au _) h.le λi2 e3=>⟨_,rfl,e3,?_⟩⟩⟩;refine h.var (w:=p.sco.arr) (by simp [ak]) (λe0 G3 F3 l3 g3 h=> ?_) rfl rfl;have b1:=R.le l3;refine ⟨_,hv,b1.row h.le,?_⟩;refine h.run (P:=λr E=>∃s,r=pk #[nE s,nS mY]/\RL E s ((gH (bV i ks) ks.length).map Int.ofNat)) (b1.kids hm) λr G4 F4 hr l4 h=> ?_;obtain ⟨sk,rfl,d4⟩:=hr;have b3:=b1.le l4;refine ⟨sk,mY,rfl,_,hv,b3.row h.le,?_⟩;refine h.run (P:=λr E=>∃s:Sl,r=pk #[s.v,U 0]/\RL E s l) (b3.visible hl) λr G5 F5 hr l5 h=> ?_;obtain ⟨sn,rfl,b7⟩:=hr;have g4:=b3.le l5;have a3:=aa l4 l5;have a1:=λ{B:PH} (l':G5.le B)=>l' _ _ (a3 _ _ g3);have f9:=d4.len;rw [ub,lP] at f9;have i0:=b7.len;refine ⟨sn,0,rfl,p.sco.u,ld (a1 h.le) (i:=3) rfl,λc2=>absurd c2 (by omega),λ_=>⟨p.sco.u,ld (a1 h.le) (i:=3) rfl,?_⟩⟩;have e5:i64.wrap (p.sco.u - 1)=((p.sco.u.toNat - 1:Nat):Int):=by rw [aJ (by omega)];omega
 dsimp only;rw [e5];refine t6 (d4.le l5) (by decide) (by omega) (by omega) λg7 cc y X A hc=> ?_;obtain rfl:cc= #[U y]:=hc;rw [N4] at X A;have X:y=((bV i ks (p.sco.u.toNat - 1):Nat):Int):=by unfold gH at X;rw [yc,yc,Xz d2] at X;exact (yC X).symm
 subst X;have a8:bK D (bV i ks (p.sco.u.toNat - 1))=V H:=ip hm a0;refine ⟨_,aE (aN h.le A) rfl,g4.qa7 h.le a8 λg8 c9=>⟨_,rfl,c9,?_⟩⟩;refine h.var (w:=H.root.arr) (by simp [ak]) (λc7 G6 F6 l6 e9 h=> ?_) rfl rfl;have c8:=(W.td.f.sub a8).here;have i5:=W.sct.lf H (dn a8) e2;have g2:0<=H.root.fr/\H.root.fr<=H.root.to:=by
  cases H with
  |lf a b d=>exact ⟨c8.2.2.1,by have:=c8.2.2.2;show b<=d;omega⟩
  |nd=>cases e2
 have e1:UT (·≠0) l:=λz hz=>by have:=(d1 z hz).1;omega
 have b4:WA (vi g) (vl C) l (.nd pr fr to ks)=WF p.sco.a.toNat (bF (vl C H.root.fr H.root.to) l):=by unfold WA;dsimp only;rw [HG hp,if_neg (by show ¬p.sco.u.toNat=0;omega)];show WF p.sco.a.toNat (bF (WD (vl C) ks p.sco.u.toNat) l)=_;unfold WD;rw [a0]
 generalize e8:vl C H.root.fr H.root.to=st at b4;have j3:∀{B:PH},St G6 B []->CZ N1 mY b6 (c:Int) C t sv (((List.range i).filter (vp g C D)).length:Int) (i:Int) e0 (bF st l) (RT F) B:=λ{B} h=>by
  have a5:0<=bF st l/\bF st l<=7:=by
   have:=yw (s:=st) (l:=l) λz hz=>by have:=d1 z hz;exact ⟨by omega,this.2⟩
   exact this
  unfold CZ;refine ⟨p.sco.a,ld (a1 (aa l6 h.le)) (i:=4) rfl,?_,λX=> ?_,λhn=> ?_⟩
  ·unfold IntKind.wrap;simp [IntKind.signed,IntKind.bits];omega
  ·rw [HH s3 s4 a5.1 a5.2] at X;exact a9 (aa l3 (aa a3 l6)) (by rw [a4,b4,X];rfl) h
  ·rw [HH s3 s4 a5.1 a5.2] at hn;have c6:vp g C D i=mY:=by rw [a4,b4,XU.2 hn];rfl
   have a7:=L7 J c6;rw [<- Ot] at a7;have j4:=(N6.1 a7).1;refine ⟨λhe=>absurd he (by omega),λ_=> ?_⟩;refine t6 (b9.le (aa l2 (aa l3 (aa a3 l6)))) (by decide) (by omega) (by omega) λg9 cv y X A hc=> ?_;rw [N4,yc,a7] at X;obtain rfl:=yC X;obtain rfl:cv=Vio.arr ⟨i⟩:=hc;refine ⟨_,rfl,aN h.le A,_,λF=>T6 ⟨i⟩ ⟨i⟩ F,λhn=> ?_,λ_=>e6 (aa l3 (aa a3 l6)) c6 h⟩;rw [ε rfl] at hn;cases hn
 refine ⟨λM kd z B=>B=F6/\-1<=z/\z<(l.length:Int)/\kd=bF st (l.drop (z+1).toNat)/\M=(z+1).toNat,l.length,⟨rfl,?_,?_,?_,?_⟩,?_⟩
 ·rw [aJ (by omega)];omega
 ·rw [aJ (by omega)];omega
 ·rw [aJ (by omega),List.drop_of_length_le (by omega)];rfl
 ·rw [aJ (by omega)];omega
 rintro M kd z F7 ⟨e7,z0,z1,rfl,rfl⟩;unfold Ol;refine ⟨λhz=>⟨λa2=> ?_,λa2=> ?_⟩,λhz=> ?_⟩
 ·obtain ⟨Q,rfl⟩:=Xw hz;have b8:Q<l.length:=by omega
  rw [show ((Q:Int)+1).toNat=Q+1 by omega] at a2 ⊢;have X:=N5 b8;have g1:=Xi b8;have O:=r7 (s:=st) (x:=l[Q]) (l:=l.drop (Q+1)) λz hz=>e1 z (List.mem_of_mem_drop hz);rw [<- g1,Υ (μ a2)] at O;have c5:∀{K:Addr->Prop},(∀a,F7.row (a.add (nT (Q:Int)*2)) (jZ l[Q])->K a)->Ix sn (Q:Int) K:=λ{K} kk=>by refine t6 (b7.le l6) (by decide) (by omega) (by omega) λa cc y d0 A hc=> ?_;rw [N4,X] at d0;obtain rfl:=yC d0;obtain rfl:cc=jZ l[Q]:=hc;exact kk a (aN (by rw [e7];exact h.le) A)
  have a6:F7 c7=V (Y H.root.arr 47):=by rw [e7];exact h.le _ _ e9
  have fin:∀b2,b2=bF st (l.drop Q)->C0 N1 (λy0 y1 F=>∃m',m'<Q+1/\(λ(M:Nat) (kd z:Int) (B:PH)=>B=F6/\-1<=z/\z<(l.length:Int)/\kd=bF st (l.drop (z+1).toNat)/\M=(z+1).toNat) m' y0 y1 F) mY b6 (c:Int) C t sv (((List.range i).filter (vp g C D)).length:Int) (i:Int) e0 sn c7 (Q:Int) b2 (RT F) F7:=λb2 e=>by unfold C0;rw [aJ (by omega)];exact ⟨Q,by omega,e7,by omega,by omega,by rw [e,show ((Q:Int) - 1+1).toNat=Q by omega],by omega⟩
  refine c5 λh6 d3=>⟨_,aE d3 rfl,H.root.fr,ld a6 (i:=2) rfl,H.root.to,ld a6 (i:=3) rfl,g2.1,by omega,by omega,by omega,?_⟩;rw [py];rw [show C.extract (nT H.root.fr) (nT H.root.to)=st from e8];refine ⟨λhe=>c5 λh5 c3=>⟨_,aM c3 (i:=1) rfl,fin _ ?_⟩,λhe=>fin _ ?_⟩
  ·rw [O,Χ (ζ he)]
  ·rw [O,Υ (ι he),a2]
 ·have e:bF st (l.drop (z+1).toNat)=bF st l:=by have:=qV (s:=st) (l.take (z+1).toNat) (l.drop (z+1).toNat) (by rw [WI];exact e1) a2;rw [WI] at this;exact this.symm
  rw [e];exact j3 (by rw [e7];exact h)
 ·have e:(z+1).toNat=0:=by omega
  rw [e,Vf];exact j3 (by rw [e7];exact h)
end
end
