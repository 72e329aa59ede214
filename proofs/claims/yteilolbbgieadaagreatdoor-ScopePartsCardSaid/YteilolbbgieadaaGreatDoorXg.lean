/-
  ScopeParts: the walk.
-/
import Derived.Test.YteilolbbgieadaaGreatDoorZi
set_option maxRecDepth 10000
open Option renaming some->mB,none->nC
open Go.Obj renaming cells->mX
open Bool renaming false->nS,true->nZ
open Go.Value renaming agg->oc,bool->oY,int->tJ,string->pg,tuple->sj,slice->tU
open Go.Addr renaming add->od,mk->pd
open Int renaming toNat->pc,tmod->tK
open Array renaming setIfInBounds->tL
namespace Go.Proofs.YteilolbbgieadaaGreatDoor
open Go.IntKind (i64 u8 u64)
open Sl renaming v->nV,nil->pk,cut->xy
open Go Go.Proofs.Tryz
structure Gwc where
 g:Gr
 cs:Sl
 n:Sl
 tk:Sl
 s:Sl
 p:Sl
 lv:Sl
 f:Sl
 c:Int
 l:Sl
 L:Δ
 hi:Sl
 H:Δ
abbrev Gwc.arr (w:Gwc) (a:Nat) (o:Sl):Γ:= #[w.cs.v,w.n.v,vi w.g.fam.2,w.tk.v,w.s.v,w.p.v,vi w.g.start,w.lv.v,w.f.v,tJ .u64 w.c,w.l.v,vi (a:Int),w.hi.v,o.v]
abbrev Gwc.gv (w:Gwc):Γ:=w.g.arr w.cs w.n w.tk w.s w.p w.lv w.f
structure GwO (G:PH) (w:Gwc) (k:Nat):Prop where
 gs:GS G w.g w.cs w.n w.tk w.s w.p w.lv w.f
 ok:OkK w.g k
 fam:(vf w.g.fam).ev (wP w.c)=nZ
 c0:0<=w.c
 c1:w.c<18446744073709551616
 l:RdS G w.l 1 (w.L.map vB)
 hi:RL G w.hi (Vt w.H)
 hts:Hts w.g w.c w.H
 l9:w.L.length<=1000
theorem GwO.le {G g:PH} {w:Gwc} {k:Nat} (h:GwO G w k) (l:G.le g):GwO g w k:=⟨h.gs.le l,h.ok,h.fam,h.c0,h.c1,h.l.le l,h.hi.le l,h.hts,h.l9⟩
theorem GwO.gv {G:PH} {w:Gwc} {k:Nat} (h:GwO G w k):GV G w.gv w.g:=⟨_,_,_,_,_,_,_,rfl,h.gs⟩
abbrev GB (bx:Nat) (w:Gwc) (a:Nat) (o:Sl) (As:List (Ψ)):List (Ψ):=pt bx (mX (w.arr a o) 158)::As
section
variable {F G:PH} {w:Gwc} {k bx a:Nat} {o:Sl} {As:List (Ψ)}
theorem jt {n:Int} (A:GwO G w k) (H:∀b∈w.L,b<256) (P:1<=n) (h:St G F (GB bx w a o As)):
  ν 101 #[Pp bx,vi n] F λr E=>∃v B,r=vi v/\0<=v/\v<n/\a<=B/\St G E (GB bx w B o As):=by
 have K:=A.l.len;rw [vb,xZ] at K;have I:=A.l9;refine Ut ?_;unfold NZ;refine ⟨_,rfl,_,h.ld0 (i:=11) rfl,_,h.ld0 (i:=10) rfl,λ_=>⟨0,a,rfl,Vr _,by omega,tI _,h⟩,λg=>⟨λg=>by omega,λ_=>⟨_,h.ld0 (i:=11) rfl,?_⟩⟩⟩;have g:a<w.L.length:=by omega
 refine h.set0 (w':=w.arr (a+1) o) (vp rfl) (by rw [aL (by omega)];rfl) λQ h=> ?_;refine ⟨_,h.ld0 (i:=10) rfl,_,h.ld0 (i:=11) rfl,?_⟩;have e:i64.wrap (((a+1:Nat):Int) - 1)=(a:Int):=by rw [aL (by omega)];omega
 dsimp only;rw [e];obtain ⟨N,O,D,_⟩:=A.l.cells (by omega);have C:=(A.l.le h.le).cell D (i:=a) (by rw [vb];omega);rw [Yy] at C;refine ⟨_,D,by omega,by omega,((w.L[a]:Nat):Int),?_,by omega,?_⟩
 ·rw [N4,xZ];exact C
 ·have J:=H _ (Vw g);have M:i64.wrap ((w.L[a]:Nat):Int)=((w.L[a]:Nat):Int):=aL (by omega);rw [M];exact ⟨_,a+1,rfl,Int.tmod_nonneg _ (by omega),Int.tmod_lt_of_pos _ (by omega),by omega,h⟩
theorem gW {x:Tk} {v:Γ} (D:Mem.rep F x v) {st:ο} (A:st.size<=100000):ν 88 #[oc v,pg st] F λr C=>(∃b,r=oY b)/\F.le C:=by obtain ⟨p,n,rfl,H,_⟩:=D;refine qgx ?_;unfold Un;refine (St.start F).newG λI K J B q2 _ h=> ?_;have g:=h.le _ _ q2;refine ⟨_,ld g rfl,λ_=>⟨_,ld g rfl,⟨_,rfl⟩,aa B h.le⟩,λ_=>⟨_,ld g rfl,?_⟩⟩;refine (qg1 (RL.nds.1 (H.le (aa B h.le))) st A).mono ?_;rintro r F2 ⟨⟨q,rfl,_⟩,E⟩;exact ⟨_,rfl,⟨_,rfl⟩,aa B (aa h.le E)⟩
theorem qhL {v:Γ} {g:Gr} {c:Int} (hg:GV F v g) (O:OkK g k) (c0:0<=c) (c1:c<18446744073709551616) {st:ο} (W:st.size<=100000):ν 103 #[oc v,tJ .u64 c,pg st] F λr D=>(∃b,r=oY b)/\F.le D:=by
 obtain ⟨o1,o2,o3,o4⟩:=dk O.ok;obtain ⟨cs,n,t,s,p,l,f,rfl,Y⟩:=hg;have et:=Y.t.len;refine Uv ?_;unfold N7;refine (St.start F).newG λb3 G1 F1 l1 q3 _ h=> ?_;refine bC (vG · c st b3 _) g.qa2.length (λ_ D=>∃L,G1.le L/\St L D []) ⟨G1,au _,h⟩ ?_;rintro j F2 N hj ⟨G2,R,h⟩ next;have C:=aa l1 R;have I:=h.le _ _ (R _ _ q3);unfold vG;refine ⟨t,ld I rfl,λB=> ?_,λa1=> ?_⟩
 ·have B:j<g.qa2.length:=by omega
  refine ⟨t,ld I rfl,?_⟩;refine u9 (Y.t.le C) (by decide) (by omega) (by omega) λa cc x Q K H=>⟨_,Mem.len H,aO h.le K,?_⟩;rw [N4] at Q;have a0:=Mem.len H;refine h.var (Mem.st H) (λb8 G3 F3 M q8 h=> ?_) rfl (Mem.len H);have V:=Mem.le M H;obtain ⟨pp,nn,rfl,hp,hn⟩:=id H;have X:=aa C M;have J:=h.le _ _ q8;have A:∀{L D:PH},G3.le L->St L D []->N (i64.wrap ((j:Int)+1)) D:=λl h=>by rw [aD B];exact next _ B ⟨_,aa R (aa M l),h⟩
  refine ⟨_,ld J rfl,λ_=> ?_,λ_=>A (au _) h⟩;have ed:eH g (j:Int)=vf x.cond:=by unfold eH;rw [N4,Q]
  have td:=(O.tok (wh Q)).2;have Z:=(O.tkd (j:Int)).small O.le;have U:DV G3 #[nn.v,vi x.cond.2] (ph (eH g (j:Int))):=by rw [ed,<- td];exact DV.mk (hn.le M)
  refine ⟨#[nn.v,vi x.cond.2],rfl,fZ J rfl,?_⟩;refine h.runv (pn U Z.1 Z.2 c0 c1) λG4 F4 E h=>⟨_,rfl,λ_=>⟨λ_=>⟨_,rfl,ai (h.le _ _ (E _ _ q8)),?_⟩,λ_=>A E h⟩,λ_=>A E h⟩;refine h.run (P:=λr _=>∃b,r=oY b) (gW (Mem.le E V) W) λr G5 F5 hr l5 h=> ?_;obtain ⟨b,rfl⟩:=hr;refine ⟨_,rfl,λ_=>⟨⟨_,rfl⟩,aa X (aa E (aa l5 h.le))⟩,λ_=>A (aa E l5) h⟩
 ·exact ⟨⟨_,rfl⟩,aa C h.le⟩
abbrev YE (l:List ByteArray):Ξ:=l.map pg
theorem lA (Z:GwO G w k) (hL:∀b∈w.L,b<256) (h:St G F (GB bx w a o As)):
  ν 74 #[Pp bx] F λr D=>∃s l g C,r=nV s/\RL g s l/\(∀x∈l,ByteArray.size x<=4)/\l.length<=3/\G.le g/\a<=C/\St g D (GB bx w C o As):=by
 refine qgw ?_;unfold Um;refine (jt Z hL (n:=12) (by decide) h).mono ?_;rintro _ F1 ⟨v,a1,rfl,v0,v1,ha,h⟩;refine ⟨_,rfl,?_⟩;have h:=(h.push (A:=own pk 9 1 (YE [])) (H:=λ_=>nC) (.inl ⟨rfl,rfl⟩) (λb X=>absurd rfl X) (λb o X=>by cases X) (au _)).swap;refine ⟨λm K z D=>∃(g:PH) (l:List ο) (C:Nat),z<=11/\m=(z - 9).toNat/\l.length+(z - 9).toNat<=2/\(∀x∈l,ByteArray.size x<=4)/\G.le g/\a<=C/\St g D (GB bx w C o (own K 9 1 (YE l)::As)),(v - 9).toNat,⟨G,[],a1,by omega,rfl,by show 0+_<=2;omega,λx O=>(by cases O),au _,ha,h⟩,?_⟩;rintro _ K z F2 ⟨G2,l,a2,z1,rfl,z2,Y,P,W,h⟩;unfold HS;refine ⟨λhz=> ?_,λhz=> ?_⟩
 ·refine h.newG λR U F3 M V _ h=> ?_;refine (jt (Z.le (aa P M)) hL (n:=3) (by decide) h).mono ?_;rintro _ F4 ⟨n,a3,rfl,n0,n1,a0,h⟩;have B:∃x:ο,x.size<=4/\F4.cell (od (pd R 0 nC) (pc n*1))=mB (pg x):=by
   have q:=h.le _ _ V;have e:n=0\/n=1\/n=2:=by omega
   rcases e with rfl|rfl|rfl
   ·exact ⟨_,by decide,ld q (i:=0) rfl⟩
   ·exact ⟨_,by decide,ld q (i:=1) rfl⟩
   ·exact ⟨_,by decide,ld q (i:=2) rfl⟩
  obtain ⟨x,O,B⟩:=B;refine ⟨_,rfl,_,rfl,n0,n1,x,B,_,rfl,w.gv,rfl,h.row0 (o:=0) rfl,w.c,h.ld0 (i:=9) rfl,?_⟩;have J:=aa P M;have E:=Z.le J;have j2:∀{g D:PH} {N:Sl} {l':List ο},U.le g->l'.length+(z - 10).toNat<=2->(∀x∈l',ByteArray.size x<=4)->St g D (GB bx w a3 o (own N 9 1 (YE l')::As))->vE (λy0 y1 F=>∃m',m'<(z - 9).toNat/\(λ(m:Nat) (K:Sl) (z:Int) (D:PH)=>∃(g:PH) (l:List ο) (C:Nat),z<=11/\m=(z - 9).toNat/\l.length+(z - 9).toNat<=2/\(∀x∈l,ByteArray.size x<=4)/\G.le g/\a<=C/\St g D (GB bx w C o (own K 9 1 (YE l)::As))) m' y0 y1 F) (mB (pd bx 0 nC)) z N (λr D=>∃s l g C,r=nV s/\RL g s l/\(∀x∈l,ByteArray.size x<=4)/\l.length<=3/\G.le g/\a<=C/\St g D (GB bx w C o As)) D:=λ{g D N l'} l h1 h2 h=>by unfold vE;rw [aL (by omega)];exact ⟨(z - 1 - 9).toNat,by omega,g,l',a3,by omega,rfl,by omega,h2,aa J l,by omega,h⟩
  refine (qhL (E.gv.le h.le) E.ok E.c0 E.c1 (by omega)).mono ?_;rintro _ F5 ⟨⟨b,rfl⟩,l5⟩;have h:=h.up l5;refine ⟨_,rfl,λ_=> ?_,λ_=>j2 (au _) (by omega) Y h⟩;refine h.push1 qeu (c:= #[pg x]) rfl (by simp [ak]) (by have:=(h.ownAt (i:=1) rfl).1.rd.len;rw [vb] at this;omega) λN G6 F6 l6 h _=> ?_;refine j2 (l':=l++[x]) l6 (by rw [tT];show _+1+_<=2;omega) (λy I=> ?_) ?_
  ·rcases vl.1 I with I|I
   ·exact Y y I
   ·rw [wa] at I;subst I;exact O
  ·rw [show YE (l++[x])=YE l++(#[pg x]:Γ).toList by unfold YE;rw [yO];rfl];exact h
 ·unfold HR;obtain ⟨U,M,Q,h⟩:=h.swap.pinO;exact ⟨K,l,U,a2,rfl,RL.strs.2 Q,Y,by omega,aa P M,W,h⟩
end
def VL (w:Gwc) (a n:Nat):Prop:=w.L.length<=a\/40<n
noncomputable abbrev WE (w:Gwc) (p:Nat):Nat:=hgt (Ww w.g w.c) (VH w.g) w.H p
structure ChI (w:Gwc) (left p:Nat) (al:Δ) (best:Int):Prop where
 mem:∀q∈al,q<w.g.qa0.length/\VN w.g q=left/\WE w q<1000
 cm:∀q,q<p->VN w.g q=left->WE w q<1000->q∈al
 len:al.length<=p
 b0:best= -1\/∃q:Nat,best=q/\q<w.g.qa0.length/\VN w.g q=left/\WE w q=w.H.getD left 0
 bc:∀q,q<p->VN w.g q=left->WE w q=w.H.getD left 0->best≠-1
theorem ChI.init {w:Gwc} {left:Nat}:ChI w left 0 [] (-1):=⟨λq h=>(by cases h),λq h=>(by omega),tI _,.inl rfl,λq h=>(by omega)⟩
section
variable {w:Gwc} {left p:Nat} {al:Δ} {best:Int}
theorem ChI.skip (h:ChI w left p al best) (r:VN w.g p≠left\/1000<=WE w p) (D:w.H.getD left 0<1000):ChI w left (p+1) al best:=by
 refine ⟨h.mem,λq C A B=> ?_,Nat.le_succ_of_le h.len,h.b0,λq C A B=> ?_⟩
 ·by_cases e:q=p
  ·subst e;rcases r with r|r
   ·exact absurd A r
   ·omega
  ·exact h.cm q (by omega) A B
 ·by_cases e:q=p
  ·subst e;rcases r with r|r
   ·exact absurd A r
   ·omega
  ·exact h.bc q (by omega) A B
theorem ChI.take (h:ChI w left p al best) (C:p<w.g.qa0.length) (D:VN w.g p=left) (E:WE w p<1000) {r:Int} (B:(WE w p=w.H.getD left 0/\best<0/\r=p)\/((WE w p≠w.H.getD left 0\/¬best<0)/\r=best)):ChI w left (p+1) (al++[p]) r:=by
 refine ⟨λq A=> ?_,λq A a b=> ?_,by rw [tT];have:=h.len;show _+1<=_;omega,?_,λq A a b=> ?_⟩
 ·rcases vl.1 A with A|A
  ·exact h.mem q A
  ·rw [wa] at A;subst A;exact ⟨C,D,E⟩
 ·by_cases e:q=p
  ·subst e;simp
  ·exact vl.2 (.inl (h.cm q (by omega) a b))
 ·rcases B with ⟨a,_,rfl⟩|⟨_,rfl⟩
  ·exact .inr ⟨p,rfl,C,D,a⟩
  ·exact h.b0
 ·rcases B with ⟨_,_,rfl⟩|⟨B,rfl⟩
  ·omega
  ·by_cases e:q=p
   ·subst e;rcases B with B|B
    ·exact absurd b B
    ·omega
   ·exact h.bc q (by omega) a b
end
section
variable {F G:PH} {w:Gwc} {k bx a:Nat} {o:Sl} {As:List (Ψ)}
theorem qhq {left:Nat} (D:GwO G w k) (hL:∀b∈w.L,b<256) (hl:left<w.g.qa1.length) (hH:w.H.getD left 0<1000) (h:St G F (GB bx w a o As)):
  ν 102 #[Pp bx,vi (left:Int)] F λr P=>∃p a' E,r=vi ((p:Nat):Int)/\p<w.g.qa0.length/\VN w.g p=left/\WE w p<1000/\(VL w a o.len->WE w p=w.H.getD left 0)/\a<=a'/\G.le E/\St E P (GB bx w a' o As):=by
 obtain ⟨o1,o2,o3,o4⟩:=dk D.ok.ok;have ep:=D.gs.p.len;have Z:=D.hts.hf.len;have b2:=D.hts.cap;have b9:=D.hi.len;rw [vb] at b9;refine Uu ?_;unfold N0;have h:=(h.push (A:=own pk 3 1 ((Vt []).map vi)) (H:=λ_=>nC) (.inl ⟨rfl,rfl⟩) (λb V=>absurd rfl V) (λb o V=>by cases V) (au _)).swap;refine ⟨λm X C q P=>∃(p:Nat) (E:PH) (l:Δ),q=p/\p<=w.g.qa0.length/\m=w.g.qa0.length - p/\ChI w left p l C/\G.le E/\St E P (GB bx w a o (own X 3 1 ((Vt l).map vi)::As)),w.g.qa0.length,⟨0,G,[],rfl,yM _,rfl,.init,au _,h⟩,?_⟩;rintro _ X C _ F1 ⟨p,G1,l,rfl,hp,rfl,K,l1,h⟩;unfold C4;refine ⟨_,rfl,_,h.ld0 (i:=5) rfl,λJ=> ?_,λd0=> ?_⟩
 ·have J:p<w.g.qa0.length:=by omega
  have Y:w.g.qa0[p]? =mB w.g.qa0[p]:=N5 J;generalize w.g.qa0[p]=x at Y;have a6:VN w.g p=x.left.toNat:=by unfold VN;rw [Y];rfl
  obtain ⟨_,_,⟨a8,c5,_⟩,_⟩:=D.ok.prod (wh Y);have a8:0<=x.left:=a8;have N:=D.le l1;refine ⟨w.gv,rfl,h.row0 (o:=0) rfl,w.c,h.ld0 (i:=9) rfl,w.hi,h.ld0 (i:=12) rfl,?_⟩;refine h.runv (ou N.gv D.ok D.fam D.c0 D.c1 Y N.hi Z b2) λG2 F2 l2 h=>⟨_,rfl,_,h.ld0 (i:=5) rfl,?_⟩;have I:=aa l1 l2;refine u9 ((N.le l2).gs.p.le h.le) (by decide) (by omega) (by omega) λd1 cc x' a0 a9 hc=> ?_;rw [N4,Y] at a0;cases a0;obtain ⟨rr,n2,l9,rfl,_⟩:=hc;refine ⟨x.left,aN a9 (i:=1) rfl,?_⟩;have j2:∀{E P:PH} {Q:Sl} {l':Δ} {B:Int},G2.le E->ChI w left (p+1) l' B->St E P (GB bx w a o (own Q 3 1 ((Vt l').map vi)::As))->∃m',m'<w.g.qa0.length - p/\(λ(m:Nat) (X:Sl) (C q:Int) (P:PH)=>∃(p:Nat) (E:PH) (l:Δ),q=p/\p<=w.g.qa0.length/\m=w.g.qa0.length - p/\ChI w left p l C/\G.le E/\St E P (GB bx w a o (own X 3 1 ((Vt l).map vi)::As))) m' Q B (i64.wrap ((p:Int)+1)) P:=λ{E P Q l' B} l h1 h=>by rw [aD J];exact ⟨_,by omega,p+1,E,l',rfl,by omega,rfl,h1,aa I l,h⟩
  unfold jv;refine ⟨λW=>j2 (au _) (K.skip (.inl (by rw [a6];omega)) hH) h,λc8=>⟨λa2=>j2 (au _) (K.skip (.inr (by show 1000<=hgt _ _ _ _;omega)) hH) h,λa1=> ?_⟩⟩;have h1:VN w.g p=left:=by rw [a6];omega
  have h2:WE w p<1000:=by show hgt _ _ _ _<1000;omega
  refine h.push1 tq (c:= #[vi (p:Int)]) rfl (by simp [ak]) (by have:=(h.ownAt (i:=1) rfl).1.rd.len;rw [vb,vb] at this;have:=K.len;omega) λc2 G3 F3 l3 h _=> ?_;have h:St G3 F3 (GB bx w a o (own c2 3 1 ((Vt (l++[p])).map vi)::As)):=by rw [show (Vt (l++[p])).map vi=(Vt l).map vi++(#[vi (p:Int)]:Γ).toList by unfold Vt;rw [yO,yO];rfl];exact h
  refine ⟨_,h.ld0 (i:=12) rfl,?_⟩;refine u9 ((N.le (aa l2 l3)).hi.le h.le) (by decide) (by omega) (by omega) λc7 c3 y R M b1=> ?_;obtain rfl:c3= #[vi y]:=b1;have R:=A0 R;rw [N4] at R;subst R;refine ⟨_,aF M rfl,λhe=>⟨λV=> ?_,λV=> ?_⟩,λW=> ?_⟩
  ·exact j2 l3 (K.take J h1 h2 (.inl ⟨by show hgt _ _ _ _=_;omega,V,rfl⟩)) h
  ·exact j2 l3 (K.take J h1 h2 (.inr ⟨.inr V,rfl⟩)) h
  ·exact j2 l3 (K.take J h1 h2 (.inr ⟨.inl (by show ¬hgt _ _ _ _=_;omega),rfl⟩)) h
 ·have:p=w.g.qa0.length:=by omega
  subst this;unfold C3;obtain ⟨G2,l2,b7,h⟩:=h.swap.pinO;have a7:=RL.ints.2 b7;obtain ⟨pb,b3,a5,b6⟩:=D.hts.hf.best left hl hH;have U:=K.bc pb b3 a5 b6;obtain ⟨q,rfl,q1,q2,q3⟩:=K.b0.resolve_left U;have W:=K.cm pb b3 a5 (by show hgt _ _ _ _<_;omega);have d2:X.len=l.length:=by have:=a7.len;rwa [vb] at this
  have c4:0<l.length:=List.length_pos_of_mem W;have c9:=K.len;have I:=aa l1 l2;refine ⟨_,rfl,_,h.ld0 (i:=11) rfl,_,h.ld0 (i:=10) rfl,λa4=> ?_,λa4=>⟨_,h.ld0 (i:=13) rfl,λa2=> ?_,λa1=> ?_⟩⟩
  ·exact ⟨q,a,G2,rfl,q1,q2,by rw [q3];exact hH,λ_=>q3,tI _,I,h⟩
  ·exact ⟨q,a,G2,rfl,q1,q2,by rw [q3];exact hH,λ_=>q3,tI _,I,h⟩
  ·have el:=D.l.len;rw [vb,xZ] at el;refine (jt (D.le I) hL (n:=(X.len:Int)) (by omega) h).mono ?_;rintro _ F4 ⟨v,a3,rfl,v0,v1,b5,h⟩;refine ⟨_,rfl,?_⟩;refine u9 (a7.le h.le) (by decide) v0 v1 λc6 b8 y R O b4=> ?_;obtain rfl:b8= #[vi y]:=b4;have hm:=K.mem;rw [yr] at R;obtain ⟨z,hz,rfl⟩:=Zg.1 R;obtain ⟨m1,m2,m3⟩:=hm z (wh hz);refine ⟨_,aF O rfl,z,a3,G2,rfl,m1,m2,m3,λhn=> ?_,b5,I,h⟩;rcases hn with hn|hn
   ·exact absurd a4 (by omega)
   ·exact absurd a1 (by omega)
end
theorem To:∃b z,SlT 92 137 4 b z:=⟨_,_,underlying92,qd3,qdH,rfl,by decide,by decide⟩
abbrev Tmn.key (x:Tmn):Int×Int:=(x.pr,x.tk)
structure TmO (x:Tmn):Prop where
 rl:x.rm.length<=3
 rs:∀r∈x.rm,ByteArray.size r<=4
 tl:x.tx.size<=1000
 tp:x.pr<0->0<x.tx.size
 inn:0<=x.pr->x.tx=emp/\x.rm=[]
structure GwS (g:Gr):Prop where
 n3:g.qa1.length<=3
 r5:∀x∈g.qa0,x.right.length<=5
 tk:∀(i:Nat) (x:Tk),g.qa2[i]? =mB x->x.cls=0->x.lit.size<=1000/\x.smp.size<=1000/\(x.lit.size=0->0<x.smp.size)
def Wn (w:Gwc) (s:Sy):Nat:=if s.t=nZ then 0 else w.H.getD s.i.toNat 0
def Y4 (w:Gwc) (s:Sy):Prop:=mV w.g s/\(s.t=nZ->(eH w.g s.i).ev (wP w.c)=nZ)/\(s.t=nS->w.H.getD s.i.toNat 0<1000)
abbrev TM (bx:Nat) (w:Gwc) (a:Nat) (o:Sl) (vs:List Γ) (As:List (Ψ)):List (Ψ):=GB bx w a o (own o 137 4 (uX vs)::As)
def ZF (G:PH) (bx:Nat) (w:Gwc) (k a:Nat) (T:List Tmn) (s:Sy) (As:List (Ψ)) (F':PH):Prop:=
 ∃G' a' o' vs' m tms,G.le G'/\a<=a'/\bT G' (T++tms) vs'/\St G' F' (TM bx w a' o' vs' As)/\(tms.map Tmn.key=Vh m)/\wx w.g (wP w.c) s m/\GrR (VL w a T.length) (Wn w s) T.length m/\∀x∈tms,TmO x
section
variable {F G:PH} {w:Gwc} {k bx a:Nat} {o:Sl} {As:List (Ψ)} {T:List Tmn} {vs:List Γ}
theorem CF {G F:PH} {As:List (Ψ)} {o:Sl} {e i:Nat} {vs:List Γ} {T:List Tmn} (r:bT G T vs) (h:St G F As) (hi:As[i]? =mB (own o e 4 (uX vs))):o.len=T.length:=by have g:=(h.ownAt hi).1.rd.len;rw [r.cat_len] at g;have g:T.length*4=o.len*4:=g;omega
theorem tZ {r:Γ} {x:Tmn} (H:bT G T vs) (A:Mem.rep G x r) (M:T.length<=1000000) (h:St G F (TM bx w a o vs As)) {C:Ψ} (K:∀D E o' g,G.le D->bT D (T++[x]) g->o'.len=T.length+1->St D E (TM bx w a o' g As)->C E):
  ∀b,F b=nC->wn (F.set b (mX r 137)) λF=>aH prog (Builtin.append_ #[92,92] 92 #[o.v,nV (Sl.mk (mB (pd b 0 nC)) 1 1)]) F λv F=>∃J:Sl,v=nV J/\rj F (pd bx 13 nC) (nV J) C:=by
 obtain ⟨_,_,TV⟩:=To;have N:=CF H h (i:=1) rfl;refine h.push1 TV (c:=r) (Mem.len A) (Mem.st A) (by omega) λo' I O B h L=> ?_;refine h.set0 (w':=w.arr a o') (vp rfl) rfl λF2 h=> ?_;refine K I F2 o' (vs++[r]) B ((H.le B).append (.cons (Mem.le B A) .nil)) (by omega) ?_;show St I F2 (GB bx w a o' (own o' 137 4 (uX (vs++[r]))::As));rw [be,cG];exact h
theorem xQ {s:Sy} (hw:GwO G w k) (hL:∀b∈w.L,b<256) (hg:GwS w.g) (hs:Y4 w s) (Q:s.t=nZ) (hr:bT G T vs) (hT:T.length<=100000) (h:St G F (TM bx w a o vs As)):
  ν 73 #[Pp bx,oc s.arr] F λr H=>r=sj #[]/\ZF G bx w k a T s As H:=by
 obtain ⟨o1,o2,o3,o4⟩:=dk hw.ok.ok;obtain ⟨⟨s0,_,s2⟩,a3,_⟩:=hs;obtain ⟨D,E,K⟩:=s2 Q;obtain ⟨g1,g2,g3⟩:=hg.tk _ _ E K;have c5:s.i.toNat<w.g.qa2.length:=(N6.1 E).1;have et:=hw.gs.t.len;refine Ul ?_;unfold Rj;refine h.newG λb3 G1 F1 l1 q3 _ h=> ?_;have J:=h.le _ _ q3;refine ⟨_,ld J rfl,λ_=> ?_,λhn=>(by rw [Q] at hn;cases hn)⟩;have N:=hw.le l1;have Y:=hr.le l1;refine ⟨_,rfl,w.tk,h.ld0 (i:=3) rfl,s.i,ld J rfl,?_⟩;refine u9 N.gs.t (by decide) s0 (by omega) λc3 b8 c2 B M X=>⟨_,Mem.len X,aO h.le M,?_⟩;rw [E] at B;cases B;obtain ⟨pp,nn,rfl,hp,hn⟩:=id X;refine h.var (Mem.st X) (λb4 G2 F2 O q4 h=> ?_) rfl rfl;have U:=N.le O;have a1:=Y.le O;refine ⟨s.i,ld (h.le _ _ (O _ _ q3)) rfl,D.lit,ld (h.le _ _ q4) rfl,?_⟩;refine h.new λb5 F3 h=>h.put0 (w':= #[vi (-1),vi s.i,pg D.lit,tU nC 0 0]) rfl rfl (by simp [ak]) λF4 h=> ?_;have h:St G2 F4 (GB bx w a o (pt b5 (mX #[vi (-1),vi s.i,pg D.lit,Sl.nil.v] 137)::own o 137 4 (uX vs)::As)):=h.swap;have a4:=aa l1 O;have j1:∀{G' H:PH} {a':Nat} {C:ο},G2.le G'->a<=a'->C.size<=1000->0<C.size->St G' H (GB bx w a' o (pt b5 (mX #[vi (-1),vi s.i,pg C,Sl.nil.v] 137)::own o 137 4 (uX vs)::As))->ra (pd bx 0 nC) b5 (λr H=>r=sj #[]/\ZF G bx w k a T s As H) H:=λ{G' H a' C} l ha b2 b0 h=>by
  unfold ra;refine (lA (U.le l) hL h).mono ?_;rintro _ F5 ⟨sr,lr,G5,a5,rfl,b1,a8,b7,l5,c4,h⟩;refine ⟨_,rfl,?_⟩;refine h.set1 (w':= #[vi (-1),vi s.i,pg C,sr.v]) (vp rfl) rfl λF6 h=> ?_;refine ⟨_,h.ld0 (i:=13) rfl,_,rfl,h.whole1,rfl,?_⟩;have hx:Mem.rep G5 (⟨-1,s.i,C,lr⟩:Tmn) #[vi (-1),vi s.i,pg C,sr.v]:=⟨sr,rfl,b1⟩;have R:=aa l l5;refine tZ (a1.le R) hx (by omega) h.swap.tail λG7 F7 o' Z I a2 _ h=>⟨rfl,G7,a5,o',Z,.lf s.i,[⟨-1,s.i,C,lr⟩],aa a4 (aa R I),by omega,a2,h,?_,?_,.qa6,λy hy=> ?_⟩
  ·rw [rE];show [((-1:Int),s.i)]=(-1,s.i)::V2 [];rw [jA]
  ·unfold wx;exact ⟨by cases s;simp at Q;subst Q;rfl,s0,by omega,a3 Q⟩
  ·rw [wa] at hy;subst hy;exact ⟨b7,a8,b2,λ_=>b0,λh=>absurd h (by show ¬(0:Int)<=-1;decide)⟩
 refine ⟨D.lit,ld (h.le _ _ q4) rfl,λhe=> ?_,λV=> ?_⟩
 ·have W:D.lit.size=0:=by rw [mT,δ] at he;rw [he];rfl
  refine ⟨D.smp,ld (h.le _ _ q4) rfl,?_⟩;refine h.set1 (w':= #[vi (-1),vi s.i,pg D.smp,Sl.nil.v]) (vp rfl) rfl λF5 h=> ?_;refine (jt U hL (n:=6) (by decide) h).mono ?_;rintro _ F6 ⟨v,a6,rfl,v0,v1,b9,h⟩;refine ⟨_,rfl,?_⟩;refine h.newG λa9 G7 F7 I a0 _ h=> ?_;have A:∃x:ο,x.size<=4/\0<x.size/\F7.cell (od (pd a9 0 nC) (pc v*1))=mB (pg x):=by
   have q:=h.le _ _ a0;have e:v=0\/v=1\/v=2\/v=3\/v=4\/v=5:=by omega
   rcases e with rfl|rfl|rfl|rfl|rfl|rfl
   ·exact ⟨_,by decide,by decide,ld q (i:=0) rfl⟩
   ·exact ⟨_,by decide,by decide,ld q (i:=1) rfl⟩
   ·exact ⟨_,by decide,by decide,ld q (i:=2) rfl⟩
   ·exact ⟨_,by decide,by decide,ld q (i:=3) rfl⟩
   ·exact ⟨_,by decide,by decide,ld q (i:=4) rfl⟩
   ·exact ⟨_,by decide,by decide,ld q (i:=5) rfl⟩
  obtain ⟨x,c6,b6,A⟩:=A;refine ⟨_,rfl,v0,v1,x,A,_,rfl,ai (h.le _ _ (I _ _ q4)),?_⟩;refine h.run (P:=λr _=>∃b,r=oY b) (gW (Mem.le (aa O I) X) (by omega)) λr G8 F8 a7 l8 h=> ?_;obtain ⟨b,rfl⟩:=a7;refine ⟨_,rfl,λ_=> ?_,λ_=>j1 (aa I l8) (by omega) g2 (g3 W) h⟩;exact h.set1 (w':= #[vi (-1),vi s.i,pg x,Sl.nil.v]) (vp rfl) rfl λF9 h=>j1 (aa I l8) (by omega) (by omega) b6 h
 ·refine j1 (au _) (tI _) g1 ?_ h;rw [mT,decide_eq_false_iff_not] at V;refine Nat.pos_of_ne_zero λW=>V ?_;generalize D.lit=d at W;obtain ⟨d⟩:=d;have:d= #[]:=Array.eq_empty_of_size_eq_zero W;rw [this]
theorem uY {w:Gwc} {s:Sy} (A:Hts w.g w.c w.H) (r:GwS w.g) (h:Y4 w s):Wn w s<=3:=by
 unfold Wn;cases ht:s.t with
 |true=>rw [Χ rfl];omega
 |false=>rw [Υ (by decide)];have:=h.1.2.1 ht;have:=h.1.1;have:=A.hf.le s.i.toNat (by omega) (h.2.2 ht);have:=r.n3;omega
theorem Fm (hL:∀b∈w.L,b<256) (hg:GwS w.g):∀(d:Nat),d<=44->∀{G F:PH} {a:Nat} {o:Sl} {T:List Tmn} {vs:List Γ} {s:Sy},GwO G w k->Y4 w s->(VL w a T.length->Wn w s<=d)->(¬VL w a T.length->44 - T.length<=d)->(T.length<=40\/T.length+300*d<=70000)->bT G T vs->St G F (TM bx w a o vs As)->
  ν 73 #[Pp bx,oc s.arr] F λr F'=>r=sj #[]/\ZF G bx w k a T s As F':=by
 intro d;induction d with
 |zero=>
  intro _ G F a o T vs s K Q h1 h2 h3 hr h;by_cases C:s.t=nZ
  ·exact xQ K hL hg Q C hr (by omega) h
  ·exfalso;have C:s.t=nS:=by simpa using C
   have hH:=Q.2.2 C;have a6:=Q.1.1;have d4:=Q.1.2.1 C;obtain ⟨q,q1,q2,q3⟩:=K.hts.hf.best s.i.toNat (by omega) hH;have D:1<=WE w q:=by show 1<=hgt _ _ _ _;unfold hgt;split<;>omega
   have D:1<=hgt (Ww w.g w.c) (VH w.g) w.H q:=D;by_cases B:VL w a T.length
   ·have:=h1 B;unfold Wn at this;rw [Υ (by rw [C];decide)] at this;omega
   ·have:=h2 B;unfold VL at B;omega
 |succ d ih=>
  intro hd G F a o T vs s K Q h1 h2 h3 hr h;by_cases C:s.t=nZ
  ·exact xQ K hL hg Q C hr (by omega) h
  have C:s.t=nS:=by simpa using C
  have hH:=Q.2.2 C;have a6:=Q.1.1;have d4:=Q.1.2.1 C;have b5:Wn w s=w.H.getD s.i.toNat 0:=by unfold Wn;rw [Υ (by rw [C];decide)]
  have d2:=uY K.hts hg Q;have hT:T.length<=70000:=by omega
  have c7:=CF hr h (i:=1) rfl;have e2:((s.i.toNat:Nat):Int)=s.i:=by omega
  refine Ul ?_;unfold Rj;refine h.newG λb3 G1 F1 l1 q3 _ h=> ?_;have b0:=h.le _ _ q3;refine ⟨_,ld b0 rfl,λB=>(by rw [C] at B;cases B),λ_=>⟨s.i,ld b0 rfl,?_⟩⟩;rw [<- e2];refine (qhq (K.le l1) hL (by omega) hH h).mono ?_;rintro _ F2 ⟨p,a1,G2,rfl,p1,p2,p3,p4,g4,l2,h⟩;rw [c7] at p4;refine ⟨_,rfl,_,rfl,_,h.ld0 (i:=13) rfl,rfl,?_⟩;have b4:=aa l1 l2;have R:w.g.qa0[p]? =mB w.g.qa0[p]:=N5 p1;generalize w.g.qa0[p]=x at R;have d3:VN w.g p=x.left.toNat:=by unfold VN;rw [R];rfl
  have f9:VH w.g p=x.right:=by unfold VH;rw [R];rfl
  obtain ⟨_,_,⟨b9,_⟩,e1⟩:=K.ok.prod (wh R);have b9:0<=x.left:=b9;have c4:=hg.r5 x (wh R);have p3:hgt (Ww w.g w.c) (VH w.g) w.H p<1000:=p3;have e6:(bI w.g p).ev (wP w.c)=nZ:=Rh p3;have b7:=K.ok.prs_ev R (wP w.c);rw [e6,K.fam,V8] at b7;obtain ⟨e0,c3⟩:=W2.1 b7.symm;rw [Vq] at c3;have D:1<=Wn w s:=by obtain ⟨q,q1,q2,q3⟩:=K.hts.hf.best s.i.toNat (by omega) hH;rw [b5,<- q3];unfold hgt;split<;>omega
  have b2:∀I∈x.right,Y4 w I/\(VL w a T.length->Wn w I<=Wn w s - 1):=λI hm=>by
   have ok:=e1 I hm;have b1:I.t=nS->w.H.getD I.i.toNat 0<hgt (Ww w.g w.c) (VH w.g) w.H p:=λe=>(LZ p3 (by rw [f9];exact hm) e).2;refine ⟨⟨ok,λe=> ?_,λe=> ?_⟩,λB=> ?_⟩
   ·have:=c3 I hm;rw [e] at this;simpa using this
   ·have:=b1 e;omega
   ·unfold Wn;cases e:I.t with
    |true=>rw [Χ rfl];omega
    |false=>rw [Υ (by decide)];have:=b1 e;have e4:hgt (Ww w.g w.c) (VH w.g) w.H p=w.H.getD s.i.toNat 0:=p4 B;have e5:(if s.t=nZ then 0 else w.H.getD s.i.toNat 0)=w.H.getD s.i.toNat 0:=b5;omega
  have f6:Mem.rep G2 (⟨(p:Int),-1,emp,[]⟩:Tmn) #[vi (p:Int),vi (-1:Int),pg ⟨#[]⟩,tU nC 0 0]:=⟨pk,rfl,RL.nil _⟩;refine tZ (hr.le b4) f6 (by omega) h λG3 F3 o3 c8 l3 g1 h8 h=> ?_;have d1:=aa b4 l3;refine bC (AY · (pd bx 0 nC) (p:Int) _) x.right.length (λj F'=>∃G' a' o' a7 J A,G3.le G'/\a1<=a'/\bT G' (T++[⟨(p:Int),-1,emp,[]⟩]++A) a7/\St G' F' (TM bx w a' o' a7 As)/\A.map Tmn.key=V2 J/\TrL w.g (wP w.c) (x.right.take j) J/\GrL (VL w a T.length) (Wn w s - 1) (T.length+1) J/\(∀y∈A,TmO y)/\J.length=j) ⟨G3,a1,o3,c8,[],[],au _,tI _,by rw [yD];exact g1,h,by rw [jA];rfl,by rw [Va];exact .nil,.nil,λy O=>(by cases O),rfl⟩ ?_;rintro j F4 N hj ⟨G4,a4,o4,f5,J,A,l4,g5,b8,h,a0,a3,Y,c5,g2⟩ next;have c6:=aa d1 l4;have W:=K.le c6;have ep:=W.gs.p.len;have f8:A.length=y4 J:=by rw [<- Mf,<- a0,vb]
  have E:(T++[(⟨(p:Int),-1,emp,[]⟩:Tmn)]++A).length=T.length+1+y4 J:=by rw [tT,tT,f8];rfl
  unfold AY;refine ⟨_,h.ld0 (i:=5) rfl,?_⟩;refine u9 W.gs.p (by decide) (by omega) (by omega) λh5 cc x' M P hc=> ?_;rw [N4,R] at M;cases M;obtain ⟨rr,n2,l9,rfl,d0,_⟩:=hc;have g7:=d0.len;refine ⟨rr,aN (aO h.le P) (i:=2) rfl,λZ=> ?_,λg6=> ?_⟩
  ·have Z:j<x.right.length:=by omega
   refine ⟨_,h.ld0 (i:=5) rfl,?_⟩;refine u9 W.gs.p (by decide) (by omega) (by omega) λh0 cc x' M P hc=> ?_;rw [N4,R] at M;cases M;obtain ⟨r2,n3,l8,rfl,a9,_⟩:=hc;have g3:=a9.len;refine ⟨r2,aN (aO h.le P) (i:=2) rfl,?_⟩;have U:x.right[j]? =mB x.right[j]:=N5 Z;generalize x.right[j]=I at U;refine u9 a9 (by decide) (by omega) (by omega) λh9 c9 h4 c2 V b6=> ?_;rw [N4,U] at c2;cases c2;obtain rfl:c9=I.arr:=b6;refine ⟨I.arr,rfl,aO h.le V,?_⟩;obtain ⟨k1,k2⟩:=b2 I (wh U);have k3:=uY K.hts hg k1;have mono:VL w a T.length->VL w a4 (T++[(⟨(p:Int),-1,emp,[]⟩:Tmn)]++A).length:=λB=>by rw [E];unfold VL at B ⊢;omega
   have a2:T.length+1+y4 J<=40\/T.length+1+y4 J+300*d<=70000:=by
    by_cases g8:T.length<=40
    ·obtain ⟨f,f1,f2,f3⟩:=Y.fb;right;omega
    ·right;have B:=Y.nfb (.inr (by omega));have h6:6 ^ (Wn w s - 1)<=6 ^ 2:=Wi (by decide) (by omega);have h7:J.length*6 ^ (Wn w s - 1)<=5*36:=YB (by omega) h6;omega
   refine (ih (by omega) W k1 (λB=> ?_) (λB=> ?_) (by rw [E];exact a2) b8 h).mono ?_
   ·by_cases X:VL w a T.length
    ·have:=k2 X;have:=h1 X;omega
    ·have:=h2 X;unfold VL at X;omega
   ·have X:¬VL w a T.length:=λX=>B (mono X);have:=h2 X;rw [E];rw [E] at B;unfold VL at B X;omega
   ·rintro _ F5 ⟨rfl,G5,a5,o5,f4,m,e9,l5,g9,c4,h,e7,e8,a8,e3⟩;refine ⟨rfl,?_⟩;rw [aD Z];refine next _ Z ⟨G5,a5,o5,f4,J++[m],A++e9,aa l4 l5,by omega,?_,h,?_,?_,?_,λy O=> ?_,by rw [tT,g2];rfl⟩
    ·rw [<- yb];exact c4
    ·rw [yO,a0,e7,rF,gH,jA,yD]
    ·rw [bq U];exact a3.snoc e8
    ·rw [E] at a8;rw [E] at mono;exact Y.snoc a8 mono k2
    ·rcases vl.1 O with O|O
     ·exact c5 y O
     ·exact e3 y O
  ·have:j=x.right.length:=by omega
   subst this;rw [wV] at a3;refine ⟨rfl,G4,a4,o4,f5,.nd (p:Int) J,⟨(p:Int),-1,emp,[]⟩::A,c6,by omega,?_,h,?_,?_,?_,λy O=> ?_⟩
   ·rw [show T++(⟨(p:Int),-1,emp,[]⟩:Tmn)::A=T++[⟨(p:Int),-1,emp,[]⟩]++A by simp];exact b8
   ·rw [rE,xV,a0];rfl
   ·unfold wx;refine ⟨x,?_,?_,e0,a3⟩
    ·unfold V5;rw [Χ (by omega),N4];exact R
    ·obtain ⟨st,si⟩:=s;have C:st=nS:=C;have e:x.left.toNat=si.toNat:=by rw [<- d3];exact p2
     have a6:0<=si:=a6;have:si=x.left:=by omega
     rw [C,this]
   ·exact .nd Y (by omega) D id (λ_=>d2) (by
     by_cases B:VL w a T.length
     ·exact .inl B
     ·unfold VL at B
      exact .inr (by omega))
   ·rcases tQ.1 O with rfl|O
    ·exact ⟨yM _,λr hr=>(by cases hr),yM _,λB=>absurd B (by show ¬(p:Int)<0;omega),λ_=>⟨rfl,rfl⟩⟩
    ·exact c5 y O
end
theorem CG:∀(n:Nat) (c:Nat->Bool),∃m,m<2 ^ n/\∀i,i<n->m.testBit i=c i
 |0,c=>⟨0,by decide,λi h=>by omega⟩
 |n+1,c=>by
  obtain ⟨m,r,g⟩:=CG n λi=>c (i+1);have w:=Bool.toNat_le (c 0);refine ⟨2*m+(c 0).toNat,by rw [Nat.pow_succ];omega,λi hi=> ?_⟩;cases i with
  |zero=>
   rw [Nat.testBit_zero];cases c 0
   ·rw [Bool.toNat_false];exact η (by omega)
   ·rw [Bool.toNat_true];exact ε (by omega)
  |succ i=>rw [Nat.testBit_succ,show (2*m+(c 0).toNat) / 2=m by omega];exact g i (by omega)
section
variable {F G:PH} {g:Gr} {k:Nat} {c:Int}
theorem QJ (r:OkK g k) (h:Vg g c=nZ):(vf g.fam).ev (wP c)=nZ:=by unfold Vg at h;have A:=(W2.1 h).2;have w:=mh (r.fam.1.small r.le) c;rw [<- r.fam.2,A] at w;exact w.symm
theorem GE (r:OkK g k) {m:Nat} (w:m<2 ^ k) (A:(vf g.fam).ev (wP (m:Nat))=nZ):Vg g (m:Int)=nZ:=by have B:=r.le;have h:=mh (r.fam.1.small r.le) (m:Int);rw [<- r.fam.2,A] at h;unfold Vg;rw [h,Bool.and_true,r.len,show min k 64=k by omega];refine ε ?_;rw [Zd _ (by exact_mod_cast yM (2 ^ k))];exact Int.ediv_eq_zero_of_lt (by omega) (by exact_mod_cast w)
theorem GF (h:OkK g k) (A:k<=3):∃m:Nat,m<8/\Vg g (m:Int)=nZ:=by
 refine Classical.byContradiction λr=>h.fam0 ?_;refine Tr.eq_of_ev h.fam.1.1 trivial λx=> ?_;have C:2 ^ k<=2 ^ 3:=Wi (by decide) A;cases e:(vf g.fam).ev x with
 |false=>rfl
 |true=>
  obtain ⟨m,B,w⟩:=CG k x;have:(vf g.fam).ev (wP (m:Nat))=nZ:=by rw [<- e];exact lO h.fam.1.2 λi hi=>by rw [<- w i hi];simp [wP]
  exact absurd ⟨m,by omega,GE h B this⟩ r
theorem qhM {v:Γ} {j:Nat} (R:GV F v g) (X:OkK g k) (h3:k<=3) (hj:j<256):
  ν 65 #[oc v,tJ .u8 (j:Int)] F λr O=>∃m:Nat,r=tJ .u64 (m:Int)/\m<8/\Vg g (m:Int)=nZ/\F.le O:=by
 have hv:=R.size;refine qfb ?_;unfold Uj;refine (St.start F).newG λb2 U F1 l1 q2 _ h=> ?_;have h:=h.push (A:=own pk 41 1 (([]:Δ).map vC)) (H:=λ_=>nC) (.inl ⟨rfl,rfl⟩) (λb E=>absurd rfl E) (λb o E=>by cases E) (au _);refine ib (λN x v F=>AU N (j:Int) b2 _ x v F) 8 (λc s O=>∃(W:PH) (l:Δ),U.le W/\(∀m∈l,m<8/\Vg g (m:Int)=nZ)/\(∀m,m<c->Vg g (m:Int)=nZ->m∈l)/\l.length<=c/\St W O [own s 41 1 (l.map vC)]) pk ⟨U,[],au _,λm D=>(by cases D),λm D=>(by omega),tI _,h⟩ ?_;rintro c s F2 N hc ⟨G2,l,L,P,D,a1,h⟩ next;have K:=aa l1 L;unfold AU;refine ⟨λw=> ?_,λa0=> ?_⟩
 ·have w:c<8:=by omega
  refine ⟨v,hv,ai (h.le _ _ (L _ _ q2)),?_⟩;have Q:u64.wrap ((c:Int)+1)=((c+1:Nat):Int):=by unfold IntKind.wrap;simp [IntKind.signed,IntKind.bits];omega
  refine h.runv (Fu (R.le K) X.ok (by omega) (by omega)) λG3 F3 V h=>⟨_,rfl,λhy=> ?_,λY=> ?_⟩
  ·refine h.push0 aai (c:= #[vC c]) rfl (by simp [ak]) (by have:=(h.ownAt (i:=0) rfl).1.rd.len;rw [vb] at this;omega) λs' G4 F4 l4 h _=> ?_;unfold vD;rw [Q];refine next _ _ w ⟨G4,l++[c],aa L (aa V l4),λm B=> ?_,λm B M=> ?_,by rw [tT];show _+1<=_;omega,?_⟩
   ·rcases vl.1 B with B|B
    ·exact P m B
    ·rw [wa] at B;subst B;exact ⟨w,hy⟩
   ·by_cases e:m=c
    ·subst e;simp
    ·exact vl.2 (.inl (D m (by omega) M))
   ·rw [yO];exact h
  ·unfold vD;rw [Q];refine next _ _ w ⟨G3,l,aa L V,P,λm B M=> ?_,by omega,h⟩;by_cases e:m=c
   ·subst e;rw [M] at Y;cases Y
   ·exact D m (by omega) M
 ·have:c=8:=by omega
  subst this;obtain ⟨m0,h0,B⟩:=GF X h3;have Z:=List.length_pos_of_mem (D m0 h0 B);have C:=(h.ownAt (i:=0) rfl).1.rd;have I:=C.len;rw [vb,xZ] at I;unfold HN;have e1:i64.wrap (j:Int)=j:=aL (by omega);rw [e1];have e2:tK (j:Int) (s.len:Int)=((j % s.len:Nat):Int):=by rw [Xc (by omega)];rfl
  rw [e2,N4,xZ];have w:j % s.len<l.length:=by rw [I];exact VU _ (by omega)
  obtain ⟨b0,o0,E,_⟩:=C.cells (by omega);have J:=C.cell E (i:=j % s.len) (by rw [vb];exact w);rw [Yy] at J;obtain ⟨m1,m2⟩:=P _ (Vw w);exact ⟨by omega,_,E,by omega,by omega,_,J,_,rfl,m1,m2,aa K h.le⟩
structure TmV (F:PH) (g:Gr) (c:Int) (s:Sy) (v:Γ) (T:List Tmn) (tl:List ByteArray) (m:Ttr):Prop where
 ex:∃n t:Sl,v= #[n.v,t.v]/\RL F n T/\RL F t tl
 key:T.map Tmn.key=Vh m
 tr:wx g (wP c) s m
 sz:yP m<=44537
 ok:∀x∈T,TmO x
 t3:tl.length<=3
 t4:∀x∈tl,ByteArray.size x<=4
theorem TmV.le {F G:PH} {g:Gr} {c:Int} {s:Sy} {v:Γ} {T:List Tmn} {r:List ο} {m:Ttr} (h:TmV F g c s v T r m) (l:F.le G):TmV G g c s v T r m:=by obtain ⟨n,t,w,A,B⟩:=h.ex;exact ⟨⟨n,t,w,A.le l,B.le l⟩,h.key,h.tr,h.sz,h.ok,h.t3,h.t4⟩
theorem qfT {D h w H B r E C A u v x:ξ}:tL (tL (tL (wr (#[tU nC 0 0,.slice nC 0 0,vi 0,.slice nC 0 0,.slice nC 0 0,.slice nC 0 0,vi 0,.slice nC 0 0,.slice nC 0 0,.int .u64 0,.slice nC 0 0,vi 0,.slice nC 0 0,.slice nC 0 0]:Γ) 0 (#[D,h,w,H,B,r,E,C,A]:Γ).toList) 9 u) 10 v) 12 x= #[D,h,w,H,B,r,E,C,A,u,v,vi 0,x,tU nC 0 0]:=by kernel_rfl
theorem qib {v:Γ} {left:Nat} {l:Sl} {L:Δ} (hg:GV F v g) (hk:OkK g k) (hS:GwS g) (hf:(vf g.fam).ev (wP c)=nZ) (c0:0<=c) (c1:c<18446744073709551616) (hl:left<g.qa1.length) (hr:RdS F l 1 (L.map vB)) (hL:∀b∈L,b<256) (Z:L.length<=1000):
  ν 44 #[oc v,tJ .u64 c,vi (left:Int),l.v] F λr F'=>((∃w,r=sj #[oc w,oY nS]/\w= #[Sl.nil.v,Sl.nil.v])\/∃w T tl m,r=sj #[oc w,oY nZ]/\TmV F' g c ⟨nS,left⟩ w T tl m)/\F.le F':=by
 have b9:=hS.n3;have hv:=hg.size;have a9:=hg;obtain ⟨cs,n,t,s,p,lv,f,rfl,hs⟩:=hg;refine qe7 ?_;unfold Ue;refine (St.start F).newG λb4 G1 F1 l1 q4 _ h=>h.new λb8 F2 h=> ?_;have O:=h.le _ _ q4;refine ⟨_,rfl,ai O,_,rfl,ai O,?_⟩;refine h.run (P:=λr G'=>∃s l,r=nV s/\RL G' s (Vt l)/\Hts g c l) ((qhr (a9.le l1) hk (by omega) hf c0 c1).mono λr F' ⟨a,b,h1,h2,h3,h4⟩=>⟨⟨a,b,h1,h2,h3⟩,h4⟩) λ_ X F3 b1 l3 h=> ?_;obtain ⟨hi,H,rfl,C,M⟩:=b1;have B:=aa l1 l3;refine ⟨hi,rfl,ai (h.le _ _ (l3 _ _ q4)),rfl,?_⟩;rw [qfT];refine h.new λQ F4 h=> ?_;have V:GwO X ⟨g,cs,n,t,s,p,lv,f,c,l,L,hi,H⟩ k:=⟨hs.le B,hk,hf,c0,c1,hr.le B,C,M,Z⟩;have b2:=M.hf.len;have a7:=C.len;rw [vb] at a7;have h:St X F4 (GB Q ⟨g,cs,n,t,s,p,lv,f,c,l,L,hi,H⟩ 0 pk [pt b8 (mX (#[Sl.nil.v,Sl.nil.v]) 94)]):=h;generalize I:(⟨g,cs,n,t,s,p,lv,f,c,l,L,hi,H⟩:Gwc)=w at V h;have e1:w.hi=hi/\w.g=g/\w.c=c/\w.H=H/\w.L=L:=by subst I;exact ⟨rfl,rfl,rfl,rfl,rfl⟩
 obtain ⟨e1,e2,e3,e4,e5⟩:=e1;clear I;refine ⟨hi,by rw [<- e1];exact h.ld0 (i:=12) rfl,?_⟩;refine u9 (C.le h.le) (by decide) (by omega) (by omega) λa cc x R N hc=> ?_;obtain rfl:cc= #[vi x]:=hc;have R:=A0 R;rw [N4] at R;subst R;refine ⟨_,aF N rfl,λb3=> ?_,λb5=> ?_⟩
 ·refine h.put1 (w':= #[Sl.nil.v,Sl.nil.v]) rfl rfl (by simp [ak,nV]) λF5 h=>⟨_,rfl,h.whole1,.inl ⟨_,rfl,rfl⟩,aa B h.le⟩
 ·have h:St X F4 (TM Q w 0 pk [] [pt b8 (mX (#[Sl.nil.v,Sl.nil.v]) 94)]):=(h.push (A:=own pk 137 4 (uX [])) (H:=λ_=>nC) (.inl ⟨rfl,rfl⟩) (λb hb=>absurd rfl hb) (λb o hb=>by cases hb) (au _)).swap;have K:Y4 w ⟨nS,(left:Int)⟩:=by
   refine ⟨⟨by show 0<=(left:Int);omega,λ_=> ?_,λhn=>(by cases hn)⟩,λhn=>(by cases hn),λ_=> ?_⟩
   ·rw [e2];show (left:Int)<_;omega
   ·show w.H.getD (pc (left:Int)) 0<1000;rw [e4,N4];omega
  have J:∀b∈w.L,b<256:=by rw [e5];exact hL
  have D:GwS w.g:=by rw [e2];exact hS
  have h3:=uY V.hts D K;refine (Fm (s:=⟨nS,(left:Int)⟩) J D 44 (tI _) V K (λ_=>by omega) (λ_=>Nat.sub_le _ _) (.inl (yM _)) .nil h).mono ?_;rintro _ F5 ⟨rfl,G5,a5,U,a6,m,W,l5,_,a3,h,a1,E,a0,Y⟩;refine ⟨rfl,_,h.ld0 (i:=13) rfl,?_⟩;refine h.new λb6 F6 h=>h.put0 (w':= #[U.v,Sl.nil.v]) rfl rfl (by simp [ak,nV]) λF7 h=> ?_;refine (lA (V.le l5) J h.swap).mono ?_;rintro _ F8 ⟨sr,tl,G8,a8,rfl,b0,a4,a2,l8,_,h⟩;refine ⟨_,rfl,?_⟩;refine h.set1 (w':= #[U.v,sr.v]) (vp rfl) rfl λF9 h=> ?_;refine ⟨_,rfl,h.whole1,?_⟩;refine h.put3 (w':= #[U.v,sr.v]) rfl rfl (by simp [ak,nV]) λb7 h=>⟨_,rfl,h.whole3,.inr ⟨_,W,tl,m,rfl,⟨U,sr,rfl,⟨a6,(a3.le l8).le h.le,(h.ownAt (i:=2) rfl).1.rd⟩,b0.le h.le⟩,a1,?_,a0.bound,Y,a2,a4⟩,aa B (aa l5 (aa l8 h.le))⟩;rw [e2,e3] at E;exact E
end
open Tr
abbrev r01:List Sy:=[⟨nS,0⟩,⟨nS,1⟩]
instance (p:Pr):Decidable (lJ p):=by unfold lJ;infer_instance
instance (p:Pr):Decidable (oZ p):=by unfold oZ;infer_instance
structure AC (l:List Pr):Prop where
 each:∀p∈l,lJ p\/oZ p\/(p.left=0/\p.right=r01)
 one:(∃p∈l,¬lJ p/\¬oZ p)->∀p∈l,p.left=1->lJ p
theorem GG {k:Nat} (g:k<6):AC (cv k).qa0:=by
 have h:k=0\/k=1\/k=2\/k=3\/k=4\/k=5:=by omega
 rcases h with rfl|rfl|rfl|rfl|rfl|rfl
 ·exact ⟨by show ∀p∈bZ.qa0,_;decide,by show (∃p∈bZ.qa0,_)->∀p∈bZ.qa0,_;decide⟩
 ·exact ⟨by show ∀p∈bR.qa0,_;decide,by show (∃p∈bR.qa0,_)->∀p∈bR.qa0,_;decide⟩
 ·exact ⟨by show ∀p∈aR.qa0,_;decide,by show (∃p∈aR.qa0,_)->∀p∈aR.qa0,_;decide⟩
 ·exact ⟨by show ∀p∈iC.qa0,_;decide,by show (∃p∈iC.qa0,_)->∀p∈iC.qa0,_;decide⟩
 ·exact ⟨by show ∀p∈fS.qa0,_;decide,by show (∃p∈fS.qa0,_)->∀p∈fS.qa0,_;decide⟩
 ·exact ⟨by show ∀p∈fU.qa0,_;decide,by show (∃p∈fU.qa0,_)->∀p∈fU.qa0,_;decide⟩
theorem pm (x:Rw):AC (aT x).qa0:=by
 obtain ⟨_,h⟩:=AA x;cases hk:bF x with
 |true=>
  have e:cX x=cv (x.qa5 % 8):=by unfold cX;rw [Χ hk]
  rw [e] at h;have C:=GG (ζ (show decide (x.qa5 % 8<6)=nZ from hk));refine ⟨λp g=> ?_,λ⟨p,g,A,B⟩ q E D=> ?_⟩
  ·rcases h p g with h|⟨_,h|⟨h,_⟩⟩
   ·exact C.each p h
   ·exact .inl h
   ·rw [hk] at h;cases h
  ·rcases h p g with r|⟨_,r|⟨r,_⟩⟩
   ·rcases h q E with w|⟨_,w|⟨w,_⟩⟩
    ·exact C.one ⟨p,r,A,B⟩ q w D
    ·exact w
    ·rw [hk] at w;cases w
   ·exact absurd r A
   ·rw [hk] at r;cases r
 |false=>
  have e:∀p∈(cX x).qa0,lJ p:=by unfold cX;rw [Υ (by rw [hk];decide)];intro p g;rw [wa.1 g];decide
  have k:∀p∈(aT x).qa0,lJ p\/oZ p:=λp g=>by
   rcases h p g with h|⟨_,h|⟨_,h⟩⟩
   ·exact .inl (e p h)
   ·exact .inl h
   ·exact .inr h
  exact ⟨λp g=>(k p g).imp id .inl,λ⟨p,g,A,B⟩=>by
   rcases k p g with h|h
   ·exact absurd h A
   ·exact absurd h B⟩
section
variable {l l':List Pr} {P:Nat->Tr} {c:Cf} {k:Int} {E:Pr->Prop}
def ZL (l:List Pr) (x:Pr):Prop:=x.right=[]/\((∃p∈l,¬lJ p/\¬oZ p)->x.left≠1)
def ZK (k:Int) (x:Pr):Prop:=x.left=k/\(⟨nS,k⟩:Sy)∈x.right/\∀s∈x.right,s.i=k\/k<s.i
theorem QM (h:∀x∈l',x∈l\/ZL l x\/(E x/\ZK k x)) (B:AC l) (r:∃p∈l,¬lJ p/\¬oZ p) {n:Int} (d:Der l' P nZ c n):n≠1:=by
 induction d with
 |mk i x hi C w hd ih=>
  rcases h x (wh hi) with h|h|⟨_,h⟩
  ·intro e;obtain ⟨s,A,g⟩:=B.one r x h e;exact absurd (w s A g) (by decide)
  ·exact h.2 r
  ·rw [h.1];exact ih _ h.2.1 rfl
theorem GH (h:∀x∈l',x∈l\/ZL l x\/(E x/\ZK k x)) (I:AC l) {a b:Int} (K:WD l' P c a b):a<b\/(a=k/\b=k/\∃i x,l'[i]? =mB x/\E x/\(P i).ev c=nZ):=by
 obtain ⟨i,j,x,s,hi,g,A,rfl,rfl,L,F⟩:=K;have B:=wh g;rcases h x (wh hi) with r|r|⟨J,r⟩
 ·by_cases G:lJ x
  ·obtain ⟨y,Q,w⟩:=G;obtain ⟨m,H⟩:=List.getElem?_of_mem Q;by_cases e:m=j
   ·subst e;rw [g] at H;cases H;rw [A] at w;cases w
   ·have:=(F m y e H).1;rw [w] at this;cases this
  ·by_cases C:oZ x
   ·exact .inl (C s B A)
   ·rcases I.each x r with D|D|⟨O,N⟩
    ·exact absurd D G
    ·exact absurd D C
    ·have M:∃p∈l,¬lJ p/\¬oZ p:=⟨x,r,G,C⟩;rw [N] at g F
     match j,g with
     |0,g=>exact absurd rfl (QM h I M (F 1 ⟨nS,1⟩ (by decide) rfl).2)
     |1,g=>cases g;exact .inl (by rw [O];decide)
     |j+2,g=>simp at g
 ·rw [r.1] at g;simp at g
 ·rcases r.2.2 s B with e|e
  ·exact .inr ⟨r.1,e,i,x,hi,J,L⟩
  ·exact .inl (by rw [r.1];exact e)
theorem Tp (h:∀x∈l',x∈l\/ZL l x\/(E x/\ZK k x)) (w:AC l) {a b:Int} (t:Tg (WD l' P c) a b):a<b\/∃i x,l'[i]? =mB x/\E x/\(P i).ev c=nZ:=by
 induction t with
 |one g=>exact (GH h w g).imp id λh=>h.2.2
 |snoc _ g ih=>
  rcases ih with ih|ih
  ·rcases GH h w g with r|r
   ·exact .inl (by omega)
   ·exact .inr r.2.2
  ·exact .inr ih
theorem Ly (r:AC l) {n:Int}:¬Tg (WD l P c) n n:=λt=>by
 rcases Tp (l':=l) (k:=0) (E:=λ_=>False) (λx g=> .inl g) r t with h|⟨_,_,_,h,_⟩
 ·omega
 ·exact h
end
theorem GI:∀t∈fi,t.cls=0->t.lit.size<=1000/\t.smp.size<=1000/\(t.lit.size=0->0<t.smp.size):=by decide
theorem GJ (x:Rw):GwS (aT x):=by
 obtain ⟨g,h⟩:=iD x;refine ⟨h.n,λp A=>(g.qa0 p A).rl,λi t r w=> ?_⟩;have B:sN t∈fi:=by rw [<- g.qa2.1];exact xR.2 ⟨t,wh r,rfl⟩
 exact GI (sN t) B w
theorem lC (x:Rw):OkK (aT x) (aT x).qa4.length:=⟨mO x,rfl,by have:=(iD x).2.c;omega⟩
structure InV (F:PH) (v:Γ) (x:Rw) (j:Nat) (L N:Δ):Prop where
 ex:∃(v0 v1 v2 v3 v4:ξ) (l n:Sl),v= #[v0,v1,v2,v3,v4,.int .u8 (j:Int),l.v,n.v]/\Gp F #[v0,v1,v2,v3,v4] x/\RdS F l 1 (L.map vB)/\RdS F n 1 (N.map vB)
 j:j<256
 l:∀b∈L,b<256
 n:∀b∈N,b<256
theorem InV.le {F G:PH} {v:Γ} {x:Rw} {j:Nat} {L N:Δ} (h:InV F v x j L N) (l:F.le G):InV G v x j L N:=by obtain ⟨r,H,C,B,A,a,b,E,w,D,g⟩:=h.ex;exact ⟨⟨r,H,C,B,A,a,b,E,w.le l,D.le l,g.le l⟩,h.j,h.l,h.n⟩
section
variable {F G:PH} {x:Rw} {j:Nat} {L N:Δ}
def Tq (F:PH) (x:Rw) (r:ξ) (F':PH):Prop:=∃(w:Γ) (c:Nat) (vt:Γ) (ok:Bool),r=sj #[oc w,tJ .u64 (c:Int),oc vt,oY ok]/\GV F' w (aT x)/\c<8/\Vg (aT x) (c:Int)=nZ/\F.le F'/\
 ((ok=nS/\vt= #[Sl.nil.v,Sl.nil.v])\/(ok=nZ/\∃T tl m,TmV F' (aT x) (c:Int) ⟨nS,0⟩ vt T tl m))
theorem xS {w g:Γ} {c K J H bt:Nat} {ok:Bool} {M O:Γ} (D:GV G w (aT x)) (V:c<8) (hi:Vg (aT x) (c:Int)=nZ) (B:(ok=nS/\g= #[Sl.nil.v,Sl.nil.v])\/(ok=nZ/\∃T A m,TmV G (aT x) (c:Int) ⟨nS,0⟩ g T A m)) (R:M.size=9) (Q:O.size=2) (P:F.le G)
  (q6:G H=mB (mX w 39)) {I:PH} (h:St G I [pt bt (mX g 94),pt J (mX O 94),pt K (mX M 39)]):vy K J H (c:Int) (mB (pd bt 0 nC)) ok (Tq F x) I:=by
 have r:g.size=2:=by
  rcases B with ⟨_,rfl⟩|⟨_,T,A,m,C⟩
  ·rfl
  ·obtain ⟨n,t,rfl,_⟩:=C.ex;rfl
 have E:∀y∈g.toList,ak y:=by
  rcases B with ⟨_,rfl⟩|⟨_,T,A,m,C⟩
  ·simp [ak,nV]
  ·obtain ⟨n,t,rfl,_⟩:=C.ex;simp [ak,nV]
 unfold vy;refine ⟨w,D.size,ai (h.le _ _ q6),_,rfl,g,r,h.whole0,?_⟩;refine h.put2 (w':=w) D.size R D.st λF2 h=>⟨h.whole0,?_⟩;refine h.put1 (w':=g) r Q E λW h=>⟨w,D.size,h.whole2,g,r,h.whole1,w,c,g,ok,rfl,D.le h.le,V,hi,aa P h.le,?_⟩;rcases B with B|⟨U,T,A,m,C⟩
 ·exact .inl B
 ·exact .inr ⟨U,T,A,m,C.le h.le⟩
theorem qic {v:Γ} (hx:InV F v x j L N):ν 30 #[oc v] F (Tq F x):=by
 obtain ⟨⟨v0,v1,v2,v3,v4,l,n,rfl,hr,Y,_⟩,hj,a5,_⟩:=hx;obtain ⟨mg,bd⟩:=iD x;have hk:=lC x;have hS:=GJ x;have a0:=bd.c;have b0:=bd.n0;have a8:=mg.start;have el:=Y.len;rw [vb,xZ] at el;have b3:=Y.cap;refine qe6 ?_;unfold Ud;refine (St.start F).newG λb1 G1 F1 l1 q1 _ h=>h.new λb2 F2 h=>h.new λb4 F3 h=> ?_;refine ⟨#[v0,v1,v2,v3,v4],rfl,fZ (h.le _ _ q1) rfl,?_⟩;refine h.run (P:=λr A=>∃w,r=oc w/\GV A w (aT x)) (qik (hr.le l1)) λ_ G2 F4 Z l2 h=> ?_;obtain ⟨w,rfl,R⟩:=Z;refine ⟨w,rfl,?_⟩;refine h.var R.st (λb6 G3 F5 l3 q6 h=> ?_) rfl R.size;have a9:=aa l1 (aa l2 l3);have U:=l3 _ _ (l2 _ _ q1);have M:=R.le l3;refine ⟨w,R.size,ai (h.le _ _ q6),_,ld (h.le _ _ U) rfl,?_⟩;refine h.run (P:=λr A=>∃m:Nat,r=tJ .u64 (m:Int)/\m<8/\Vg (aT x) (m:Int)=nZ) ((qhM M hk a0 hj).mono λr W ⟨m,a1,a2,a3,a4⟩=>⟨⟨m,a1,a2,a3⟩,a4⟩) λ_ G4 F6 hm X h=> ?_;obtain ⟨m,rfl,m8,mi⟩:=hm;have K:=aa a9 X;have g:=X _ _ U;have E:=X _ _ q6;have H:=M.le X;have V:F6.cell (pd b6 6 nC)=mB (vi (0:Int)):=by obtain ⟨_,_,_,_,_,_,_,rfl,_⟩:=H;rw [<- a8];exact ld (h.le _ _ E) (i:=6) rfl
 have a7:pc (min (l.len:Int) 40)=min l.len 40:=by omega
 refine ⟨_,rfl,w,R.size,ai (h.le _ _ E),0,V,l,ld (h.le _ _ g) rfl,l,ld (h.le _ _ g) rfl,by omega,by omega,by omega,?_⟩;rw [a7];have Q:RdS G4 (xy l 1 0 (min l.len 40) l.cap) 1 ((L.take (min l.len 40)).map vB):=by have:=(Y.le K).cut (l:=0) (r:=min l.len 40) (m:=l.cap) (yM _) (Nat.min_le_left _ _) (by omega);rw [V9,Vz,VV,xZ,<- List.map_take] at this;exact this
 have a6:=QJ hk mi;have B:∀{A:PH},G4.le A->ν 44 #[oc w,tJ .u64 (m:Int),vi ((0:Nat):Int),(xy l 1 0 (min l.len 40) l.cap).v] A λr W=>(∃w',(∃ok,r=sj #[oc w',oY ok]/\((ok=nS/\w'= #[Sl.nil.v,Sl.nil.v])\/(ok=nZ/\∃T D t,TmV W (aT x) (m:Int) ⟨nS,0⟩ w' T D t))))/\A.le W:=λl=>by
  refine (qib (H.le l) hk hS a6 (by omega) (by omega) (by omega) (Q.le l) (λb hb=>a5 b (YT hb)) (by rw [PM];omega)).mono ?_;rintro r W ⟨⟨w',rfl,e⟩|⟨w',T,D,t,rfl,hT⟩,lF⟩
  ·exact ⟨⟨w',nS,rfl,.inl ⟨rfl,e⟩⟩,lF⟩
  ·exact ⟨⟨w',nZ,rfl,.inr ⟨rfl,T,D,t,hT⟩⟩,lF⟩
 have O:∀{A:PH} {w':Γ} {ok:Bool},((ok=nS/\w'= #[Sl.nil.v,Sl.nil.v])\/(ok=nZ/\∃T D t,TmV A (aT x) (m:Int) ⟨nS,0⟩ w' T D t))->w'.size=2/\∀y∈w'.toList,ak y:=λJ=>by
  rcases J with ⟨_,rfl⟩|⟨_,T,D,t,hT⟩
  ·exact ⟨rfl,by simp [ak,nV]⟩
  ·obtain ⟨n,t,rfl,_⟩:=hT.ex;exact ⟨rfl,by simp [ak,nV]⟩
 refine ⟨?_,?_⟩
 ·refine h.run (P:=λr A=>∃w',(∃ok,r=sj #[oc w',oY ok]/\((ok=nS/\w'= #[Sl.nil.v,Sl.nil.v])\/(ok=nZ/\∃T D t,TmV A (aT x) (m:Int) ⟨nS,0⟩ w' T D t)))) (B (au _)) λ_ G5 F7 I C h=> ?_;obtain ⟨w',ok,rfl,J⟩:=I;obtain ⟨v9,v8⟩:=O J;refine ⟨w',ok,rfl,ld (h.le _ _ (C _ _ g)) rfl,ld (h.le _ _ (C _ _ g)) rfl,?_⟩;refine h.new λb8 F8 h=>h.put0 (w':=w') v9 rfl v8 λF9 h=> ?_;exact xS (H.le C) m8 mi J rfl rfl (aa K C) (C _ _ E) h
 ·refine h.new λb8 F8 h=> ?_;refine h.run (P:=λr A=>∃w',(∃ok,r=sj #[oc w',oY ok]/\((ok=nS/\w'= #[Sl.nil.v,Sl.nil.v])\/(ok=nZ/\∃T D t,TmV A (aT x) (m:Int) ⟨nS,0⟩ w' T D t)))) (B (au _)) λ_ G5 F7 I C h=> ?_;obtain ⟨w',ok,rfl,J⟩:=I;obtain ⟨v9,v8⟩:=O J;refine ⟨w',ok,rfl,ld (h.le _ _ (C _ _ g)) rfl,ld (h.le _ _ (C _ _ g)) rfl,?_⟩;refine h.put0 (w':=w') v9 rfl v8 λF9 h=> ?_;exact xS (H.le C) m8 mi J rfl rfl (aa K C) (C _ _ E) h
end
open Go.ChangeShapes Go.WideShapes Go.ChangeAt Go.RowKit Go.Deep
set_option maxRecDepth 100000
section
section
variable {H:Type} {enc:TypeId×ξ->H} {W:World}
theorem Lz:prog.cellsOf 28=8:=by kernel_rfl
theorem Aa {fuel:Nat} {cs:Γ} {x:DataW H×List MemPlace} (h:DataW.trod enc prog W 0 (λ_=>nZ) nZ fuel 28 cs.toList=mB x) (g:(x.1.weights prog 28).all (·<=reachBytes)=nZ):
  ∃(J:Rw) (j:Nat) (L N:Δ),InV (hF W) cs J j L N:=by
 obtain ⟨Y,n,_,rfl,O,G,B⟩:=DataW.trod_struct underlying28 h;rw [Lz] at O;obtain ⟨cs⟩:=cs
 match cs,O with
 |[c0,c1,c2,c3,c4,c5,c6,c7],_=>
 match Y,G with
 |[x0,x1,x2,x3],_=>
 have f0:=B 0 _ rfl;have K:=B 1 _ rfl;have f2:=B 2 _ rfl;have M:=B 3 _ rfl;simp only [X2,V6] at f0 K f2 M;obtain ⟨z1,U,_,Z⟩:=DataW.trod_int underlying5 K;cases U;have D:(x0.1.weights prog 26).all (·<=reachBytes)=nZ:=by rw [Vq] at g ⊢;intro y w;refine g y ?_;rw [DataW.weights,underlying28];exact DataW.weights_mem_each (j:=0) rfl rfl y w
 have C:(x2.1.weights prog 22).all (·<=reachBytes)=nZ:=by rw [Vq] at g ⊢;intro y w;refine g y ?_;rw [DataW.weights,underlying28];exact DataW.weights_mem_each (j:=2) rfl rfl y w
 have E:(x3.1.weights prog 22).all (·<=reachBytes)=nZ:=by rw [Vq] at g ⊢;intro y w;refine g y ?_;rw [DataW.weights,underlying28];exact DataW.weights_mem_each (j:=3) rfl rfl y w
 obtain ⟨J,hr⟩:=Ky (cs:= #[c0,c1,c2,c3,c4]) f0 D;obtain ⟨X,P,rfl,F,r,_⟩:=iE f2 C;obtain ⟨Q,V,rfl,I,A,_⟩:=iE M E;obtain ⟨n1,rfl,R⟩:=eL Z;exact ⟨J,n1,P,V,⟨⟨c0,c1,c2,c3,c4,X,Q,rfl,hr,F,I⟩,R,r,A⟩⟩
end
def Y0 (g:Gr) (x:Tmn):Prop:=(x.pr= -1/\0<=x.tk/\x.tk<g.qa2.length)\/(0<=x.pr/\x.pr<g.qa0.length/\x.tk= -1/\x.tx=emp/\x.rm=[])
section
variable {F G:PH} {g:Gr} {x:Tmn}
theorem t5 {v w:Γ} (Q:GV F v g) (M:Mem.rep F x w) (O:Y0 g x):ν 90 #[oc v,oc w] F λr R=>r=oY nZ/\F.le R:=by
 obtain ⟨cs,n,t,s,p,l,f,rfl,I⟩:=Q;obtain ⟨r,rfl,U⟩:=M;have X:=I.t.len;have W:=I.p.len;refine qgz ?_;unfold Uq;refine (St.start F).newG λb2 Z Y V q2 _ h=>h.newG λb3 G2 F2 E q3 _ h=> ?_;have C:=h.le _ _ (E _ _ q2);have A:=h.le _ _ q3;have H:=aa V (aa E h.le);rcases O with ⟨D,K,J⟩|⟨D,K,J,P,N⟩
 ·refine ⟨_,ld A rfl,λ_=>⟨_,ld A rfl,λ_=>⟨_,ld A rfl,_,ld C rfl,?_,H⟩,λB=>absurd K B⟩,λB=>absurd D B⟩;rw [ε (by omega)]
 ·have L:=U.len;rw [N] at L;refine ⟨_,ld A rfl,λB=>(by omega),λ_=>⟨_,ld A rfl,λ_=>⟨_,ld A rfl,_,ld C rfl,λ_=>⟨_,ld A rfl,λ_=>⟨_,ld A rfl,λ_=>⟨_,ld A rfl,?_,H⟩,λB=> ?_⟩,λB=>absurd J B⟩,λB=>absurd (by omega) B⟩,λB=>absurd D B⟩⟩
  ·rw [ε (by rw [L];rfl)]
  ·rw [mT,P] at B;exact absurd B (by decide)
def YJ (g:Gr) (x:Tmn):Sy:=if x.pr= -1 then ⟨nZ,x.tk⟩ else ⟨nS,((g.qa0[x.pr.toNat]?).map Pr.left).getD 0⟩
theorem Ab {v w:Γ} (N:GV F v g) (K:Mem.rep F x w) (L:Y0 g x):ν 91 #[oc v,oc w] F λr Q=>r=oc (YJ g x).arr/\F.le Q:=by
 obtain ⟨cs,n,t,s,p,l,f,rfl,I⟩:=N;obtain ⟨r,rfl,hr⟩:=K;have X:=I.p.len;refine qgA ?_;unfold Ur;refine (St.start F).newG λb2 G1 F1 V q2 _ h=>h.newG λb3 G2 F2 H q3 _ h=>h.new λb4 F3 h=> ?_;have E:=h.le _ _ (H _ _ q2);have A:=h.le _ _ q3;have B:=aa V H;rcases L with ⟨D,O,M⟩|⟨D,O,M,Y,W⟩
 ·refine ⟨_,ld A rfl,λ_=>⟨_,ld A rfl,?_⟩,λJ=>absurd D J⟩;refine h.put0 (w':= #[oY nZ,vi x.tk]) rfl rfl (by simp [ak]) λU h=>⟨_,rfl,h.whole0,?_,aa B h.le⟩;unfold YJ;rw [Χ D]
 ·refine ⟨_,ld A rfl,λJ=>(by omega),λ_=>⟨p,ld E rfl,_,ld A rfl,?_⟩⟩;refine u9 (I.p.le B) (by decide) D (by omega) λa cc y P C R=> ?_;obtain ⟨Z,n2,l9,rfl,_⟩:=R;refine ⟨y.left,aN (aO h.le C) (i:=1) rfl,?_⟩;refine h.put0 (w':= #[oY nS,vi y.left]) rfl rfl (by simp [ak]) λU h=>⟨_,rfl,h.whole0,?_,aa B h.le⟩;unfold YJ;rw [Υ (by omega),P];rfl
end
section
variable {F G:PH} {g:Gr} {T:List Tmn} {c:Cf}
theorem Ac {i:Nat} {m:Ttr} {rest:List (Int×Int)} (h:(T.map Tmn.key).drop i=Vh m++rest):∃x,T[i]? =mB x/\x.key=kR m/\(T.map Tmn.key).drop (i+1)=V2 m.kids++rest:=by
 rw [rE] at h;have r:(T.map Tmn.key)[i]? =mB (kR m):=by have:=congrArg (·[0]?) h;simpa using this
 rw [yr] at r;obtain ⟨x,w,A⟩:=Zg.1 r;refine ⟨x,w,A,?_⟩;have:=congrArg (List.drop 1) h;rw [XJ] at this;simpa using this
theorem QN {x:Tmn} {s:Sy} {m:Ttr} (h:wx g c s m) (r:x.key=kR m):YJ g x=s:=by
 cases m with
 |lf C=>unfold wx at h;have A:x.pr= -1:=congrArg Prod.fst r;have w:x.tk=C:=congrArg Prod.snd r;unfold YJ;rw [Χ A,w,h.1]
 |nd B E=>unfold wx at h;obtain ⟨p,A,w,_⟩:=h;have D:x.pr=B:=congrArg Prod.fst r;obtain ⟨a,b,e⟩:=bG A;unfold YJ;rw [Υ (by omega),D,e,w];rfl
theorem GK:∀{r:List Sy} {ks:List Ttr},TrL g c r ks->r.length=ks.length/\∀(k:Nat) (m:Ttr),ks[k]? =mB m->∃s,r[k]? =mB s/\wx g c s m
 |[],[],_=>⟨rfl,λk m h=>by simp at h⟩
 |s::r,m::ks,h=>by
  unfold TrL at h;obtain ⟨a,b⟩:=GK h.2;refine ⟨by rw [wo,wo,a],λk y w=> ?_⟩;cases k with
  |zero=>cases w;exact ⟨s,rfl,h.1⟩
  |succ k=>exact b k y w
 |[],_::_,h=>by unfold TrL at h;exact h.elim
 |_::_,[],h=>by unfold TrL at h;exact h.elim
theorem CH:∀l:List Ttr,l.length<=y4 l
 |[]=>yM _
 |m::l=>by have:=CH l;rw [i7,kS,wo];omega
theorem GL {v:Γ} {l:Sl} (hO:∀x∈T,Y0 g x) (hT:T.length<=1000000):∀(m:Ttr) {F:PH} {s:Sy} {i:Nat} {rest:List (Int×Int)},GV F v g->RL F l T->wx g c s m->(T.map Tmn.key).drop i=Vh m++rest->
  ν 59 #[oc v,l.v,vi (i:Int)] F λr F'=>r=vi ((i+yP m:Nat):Int)/\F.le F':=by
 refine Ttr.ind (λtk=> ?_) λpr A ih=> ?_
 ·intro F s i rest V hl ht hk;obtain ⟨x,K,R,_⟩:=Ac hk;have hi:=(N6.1 K).1;have el:=hl.len;have hv:=V.size;have hp:x.pr= -1:=congrArg Prod.fst R;refine Uh ?_;unfold Ri;refine (St.start F).newG λb3 G1 F1 P q3 _ h=>⟨λD=>absurd D (by omega),λ_=> ?_⟩;refine ⟨v,hv,ai (h.le _ _ q3),?_⟩;have E:=hl.le P;refine u9 E (by decide) (by omega) (by omega) λa M y B w C=> ?_;rw [N4,K] at B;cases B;refine ⟨M,Mem.len C,aO h.le w,?_⟩;refine h.runv (t5 (V.le P) C (hO x (wh K))) λG2 F2 L h=>⟨_,rfl,λD=>(by cases D),λ_=> ?_⟩;refine u9 (E.le L) (by decide) (by omega) (by omega) λa M y B w C=> ?_;rw [N4,K] at B;cases B;obtain ⟨r,rfl,_⟩:=C;refine ⟨_,aF (aO h.le w) rfl,λ_=>⟨?_,aa P (aa L h.le)⟩,λD=>absurd (by rw [hp];decide) D⟩;rw [aD hi,kS];show vi _=vi ((i+(1+y4 []):Nat):Int);rw [fz]
 ·intro F s i rest V hl ht hk;obtain ⟨x,K,R,Q⟩:=Ac hk;have hi:=(N6.1 K).1;have el:=hl.len;have hv:=V.size;have U:=V;unfold wx at ht;obtain ⟨p,h1,_,_,b4⟩:=ht;obtain ⟨p0,p1,p2⟩:=bG h1;obtain ⟨tl,ta⟩:=GK b4;have hp:x.pr=pr:=congrArg Prod.fst R;have c4:A.length<=1000000:=by have h1:=congrArg List.length hk;have h2:=CH A;rw [WL,tT,eO,kS,vb] at h1;have h1:T.length - i=1+y4 A+rest.length:=h1;omega
  obtain ⟨cs,n,tk,s0,ps,lv,f,rfl,hs⟩:=V;have ep:=hs.p.len;refine Uh ?_;unfold Ri;refine (St.start F).newG λb3 G1 F1 P q3 _ h=>⟨λD=>absurd D (by omega),λ_=> ?_⟩;refine ⟨_,hv,ai (h.le _ _ q3),?_⟩;have E:=hl.le P;refine u9 E (by decide) (by omega) (by omega) λa M y B w C=> ?_;rw [N4,K] at B;cases B;refine ⟨M,Mem.len C,aO h.le w,?_⟩;refine h.runv (t5 (U.le P) C (hO x (wh K))) λG2 F2 L h=>⟨_,rfl,λD=>(by cases D),λ_=> ?_⟩;refine u9 (E.le L) (by decide) (by omega) (by omega) λa M y B w C=> ?_;rw [N4,K] at B;cases B;obtain ⟨r,rfl,_⟩:=C;refine ⟨_,aF (aO h.le w) rfl,λD=>absurd D (by rw [hp];omega),λ_=>⟨ps,ld (h.le _ _ (L _ _ q3)) rfl,?_⟩⟩;have a1:=aa P L;refine u9 (E.le L) (by decide) (by omega) (by omega) λb5 M y B w C=> ?_;rw [N4,K] at B;cases B;obtain ⟨r2,rfl,_⟩:=C;refine ⟨x.pr,aF (aO h.le w) rfl,?_⟩;refine u9 (hs.p.le a1) (by decide) (by omega) (by omega) λc2 M y B w C=> ?_;have a7:g.qa0[x.pr.toNat]? =mB p:=by rw [hp];exact p2
  rw [a7] at B;cases B;obtain ⟨rr,n2,l9,rfl,Z,_⟩:=C;have b9:=Z.len;refine ⟨rr,aN (aO h.le w) (i:=2) rfl,?_⟩;rw [aD hi];refine ib (AT · l b3 rr _) A.length (λj z F'=>∃G',G2.le G'/\z=((i+1+y4 (A.take j):Nat):Int)/\(T.map Tmn.key).drop (i+1+y4 (A.take j))=V2 (A.drop j)++rest/\St G' F' []) _ ⟨G2,au _,by rw [Va,fz],by rw [Va,fz];exact Q,h⟩ ?_;rintro j z F3 N hj ⟨G3,W,rfl,hd,h⟩ next;have O:=aa a1 W;unfold AT;refine ⟨λH=> ?_,λb7=> ?_⟩
  ·have H:j<A.length:=by omega
   have hm:A[j]? =mB A[j]:=N5 H;have a2:A[j]∈A:=Vw H;have a0:A.drop j=A[j]::A.drop (j+1):=XG H;generalize A[j]=m at hm a2 a0;obtain ⟨sy,b1,Y⟩:=ta j m hm;have a8:A.take (j+1)=A.take j++[m]:=bq hm;rw [a0,gH,yb] at hd;obtain ⟨y,B,a9,_⟩:=Ac hd;have b6:=(N6.1 B).1;have a5:=E.le (aa L W);have J:i+1+y4 (A.take j)+yP m=i+1+y4 (A.take (j+1)):=by rw [a8,kT,i7,fz];omega
   refine ⟨_,rfl,ai (h.le _ _ (W _ _ (L _ _ q3))),?_⟩;refine h.runv (ih m a2 (U.le O) a5 Y hd) λG4 F4 X h=>⟨_,rfl,λD=>absurd D (by omega),λ_=> ?_⟩;have b2:=aa O X;have b0:=a5.le X;refine ⟨_,hv,ai (h.le _ _ (X _ _ (W _ _ (L _ _ q3)))),?_⟩;refine u9 b0 (by decide) (by omega) (by omega) λc3 M y' a3 w C=> ?_;rw [N4,B] at a3;cases a3;refine ⟨M,Mem.len C,aO h.le w,?_⟩;refine u9 (Z.le (aa W X)) (by decide) (by omega) (by omega) λb8 sc s' a4 I a6=> ?_;rw [N4,b1] at a4;cases a4;obtain rfl:sc=sy.arr:=a6;refine ⟨_,rfl,aO h.le I,?_⟩;refine h.runv (Ab (U.le b2) C (hO y (wh B))) λG5 F5 l5 h=>⟨_,rfl,aO (aa l5 h.le) I,_,λF=>NL _ _ F,λD=> ?_,λ_=> ?_⟩
   ·rw [QN Y a9] at D;simp at D
   ·rw [aD H,J];refine next _ _ H ⟨G5,aa W (aa X l5),rfl,?_,h⟩;rw [<- J,<- XJ,hd,<- eO m,List.drop_left]
  ·have:j=A.length:=by omega
   subst this;unfold HM;refine ⟨?_,aa O h.le⟩;rw [wV,kS];show vi _=vi ((i+(1+y4 A):Nat):Int);rw [V7]
end
def lvs (T:List Tmn):List ο:=T.filterMap λx=>if x.pr<0 then mB x.tx else nC
theorem Ad (a b:List Tmn):lvs (a++b)=lvs a++lvs b:=by unfold lvs;rw [List.filterMap_append]
theorem lD {T:List Tmn} {i:Nat} {x:Tmn} (g:T[i]? =mB x):lvs (T.take (i+1))=lvs (T.take i)++if x.pr<0 then [x.tx] else []:=by
 rw [bq g,Ad];congr 1;unfold lvs;split
 ·rw [List.filterMap_cons_some (b:=x.tx) (by rw [Χ ‹_›])];rfl
 ·rw [List.filterMap_cons_none (by rw [Υ ‹_›])];rfl
theorem GM {a b:ο} {i j:Nat} (h:j<=a.size):(a++b).extract i j=a.extract i j:=by
 refine ByteArray.ext ?_;have g:a.data.size=a.size:=rfl;rw [ByteArray.data_extract,ByteArray.data_extract,ByteArray.data_append];refine Array.toList_inj.1 ?_;rw [Array.toList_extract,Array.toList_extract,List.extract_eq_take_drop,List.extract_eq_take_drop,Zl];by_cases hi:i<=a.size
 ·rw [List.drop_append_of_le_length (by rw [zA];omega),WJ (by rw [WL,zA];omega)]
 ·rw [show j - i=0 by omega,Va,Va]
theorem Fo {a b:ο}:(a++b).extract a.size (a.size+b.size)=b:=by refine ByteArray.ext ?_;have g:a.data.size=a.size:=rfl;have h:b.data.size=b.size:=rfl;rw [ByteArray.data_extract,ByteArray.data_append];refine Array.toList_inj.1 ?_;rw [Array.toList_extract,List.extract_eq_take_drop,Zl,<- g,<- zA,List.drop_left,YO,<- h,<- zA,wV]
structure WdI (L:List ByteArray) (tx:ByteArray) (ws:List (Nat×Nat)):Prop where
 len:ws.length=L.length
 wd:∀(j:Nat) (w:Nat×Nat),ws[j]? =mB w->w.1<w.2/\w.2<=tx.size/\L[j]? =mB (tx.extract w.1 w.2)
 ch:∀(j:Nat) (w w':Nat×Nat),ws[j]? =mB w->ws[j+1]? =mB w'->w.2<=w'.1
theorem WdI.nil (tx:ο):WdI [] tx []:=⟨rfl,λj w h=>by simp at h,λj w g h=>by simp at h⟩
theorem WdI.grow {L:List ο} {tx:ο} {g:List (Nat×Nat)} (h:WdI L tx g) (y:ο):WdI L (tx++y) g:=by refine ⟨h.len,λj w B=> ?_,h.ch⟩;obtain ⟨C,r,A⟩:=h.wd j w B;exact ⟨C,by rw [ByteArray.size_append];omega,by rw [GM r];exact A⟩
theorem WdI.add {L:List ο} {tx:ο} {B:List (Nat×Nat)} (h:WdI L tx B) {s:ο} (I:0<s.size):WdI (L++[s]) (tx++s) (B++[(tx.size,tx.size+s.size)]):=by
 have D:=h.len;refine ⟨by rw [tT,tT,D];rfl,λj w r=> ?_,λj w E r g=> ?_⟩
 ·by_cases C:j<B.length
  ·rw [z8 C] at r;obtain ⟨H,F,G⟩:=(h.grow s).wd j w r;exact ⟨H,F,by rw [z8 (by omega)];exact G⟩
  ·have A:=(N6.1 r).1;rw [tT,Vc] at A;have:j=B.length:=by omega
   subst this;rw [Vm (tI _),Yi] at r;cases r;refine ⟨by show tx.size<tx.size+s.size;omega,by rw [ByteArray.size_append];exact tI _,?_⟩;rw [D,Vm (tI _),Yi,Fo];rfl
 ·have A:=(N6.1 g).1;rw [tT,Vc] at A;rw [z8 (by omega)] at r;by_cases C:j+1<B.length
  ·rw [z8 C] at g;exact h.ch j w E r g
  ·rw [show j+1=B.length by omega,Vm (tI _),Yi] at g;cases g;exact (h.wd j w r).2.1
def XC (ws:List (Nat×Nat)) (j:Nat):Int×Int:=(((ws.getD j (0,0)).1:Int),((ws.getD j (0,0)).2:Int))
def V0 (ws:List (Nat×Nat)) (e j:Nat):Int:=if j<ws.length then ((ws.getD j (0,0)).1:Int) else (e:Int)
theorem WdI.wds {L:List ο} {tx:ο} {g:List (Nat×Nat)} (h:WdI L tx g):YG (XC g) (V0 g tx.size) g.length:=by
 intro j B;have A:g[j]? =mB g[j]:=N5 B;have e:g.getD j (0,0)=g[j]:=by rw [Vb,A];rfl
 obtain ⟨E,D,_⟩:=h.wd j _ A;unfold XC V0;rw [Χ B,e];refine ⟨rfl,by show ((g[j].1:Nat):Int)<(g[j].2:Nat);omega,?_⟩;show ((g[j].2:Nat):Int)<=_;split
 ·rename_i w;have r:g[j+1]? =mB g[j+1]:=N5 w;have C:g.getD (j+1) (0,0)=g[j+1]:=by rw [Vb,r];rfl
  have:=h.ch j _ _ A r;rw [C];omega
 ·omega
theorem QO (g:List (Nat×Nat)) (e j:Nat):0<=V0 g e j:=by unfold V0;split<;>omega
section
variable {g:Gr} {c:Cf}
theorem CI:∀(l:List Ttr),(∀k∈l,∀(s:Sy) (a:Nat),wx g c s k->∀y∈w5 a k,∃A,wx g c A y.1)->∀(r:List Sy) (a:Nat),TrL g c r l->∀y∈yK a l,∃A,wx g c A y.1
 |[],_,r,a,_,y,w=>by unfold yK at w;cases w
 |k::l,ih,[],a,h,y,w=>by unfold TrL at h;exact h.elim
 |k::l,ih,s::r,a,h,y,w=>by
  unfold TrL at h;rw [yK,vl] at w;rcases w with w|w
  ·exact ih k (by simp) s a h.1 y w
  ·exact CI l (λk B=>ih k (by simp [B])) r _ h.2 y w
theorem Ae:∀(t:Ttr) (s:Sy) (a:Nat),wx g c s t->∀y∈w5 a t,∃B,wx g c B y.1:=Ttr.ind (λD s a h y r=>by
  unfold w5 at r;rw [wa] at r;subst r
  exact ⟨s,h⟩) λC A ih s a h y r=>by
 rw [rD] at r;rcases tQ.1 r with rfl|r
 ·exact ⟨s,h⟩
 ·unfold wx at h;obtain ⟨p,_,_,_,w⟩:=h;exact CI A ih _ _ w y r
theorem Af (a:Nat) (m:Ttr) {T:List Tmn} (h:T.map Tmn.key=Vh m) {i:Nat} {x:Tmn} (w:T[i]? =mB x):∃y,(w5 a m)[i]? =mB y/\x.key=kR y.1:=by rw [<- vX a] at h;have:=congrArg (·[i]?) h;simp only [yr,w,VF] at this;obtain ⟨y,A,r⟩:=Zg.1 this.symm;exact ⟨y,A,r.symm⟩
theorem QP {s:Sy} {m:Ttr} {T:List Tmn} (C:T.map Tmn.key=Vh m) (E:wx g c s m) (B:∀x∈T,TmO x):∀x∈T,Y0 g x:=by
 intro x w;obtain ⟨i,hi⟩:=List.mem_iff_getElem?.1 w;obtain ⟨⟨y,a⟩,G,r⟩:=Af 0 m C hi;obtain ⟨K,h⟩:=Ae m s 0 E _ (wh G);cases y with
 |lf A=>unfold wx at h;exact .inl ⟨congrArg Prod.fst r,by rw [show x.tk=A from congrArg Prod.snd r];exact h.2.1,by rw [show x.tk=A from congrArg Prod.snd r];exact h.2.2.1⟩
 |nd D J=>unfold wx at h;obtain ⟨p,I,_⟩:=h;obtain ⟨q0,q1,_⟩:=bG I;have e:x.pr=D:=congrArg Prod.fst r;obtain ⟨F,H⟩:=(B x w).inn (by omega);exact .inr ⟨by omega,by omega,congrArg Prod.snd r,F,H⟩
theorem gE {s:Sy} {m:Ttr} {T:List Tmn} (r:T.map Tmn.key=Vh m) (w:wx g c s m):∀i,i<=T.length->(lvs (T.take i)).length=VO ((w5 0 m).take i)
 |0,_=>by rw [Va,Va];rfl
 |i+1,h=>by
  have hi:T[i]? =mB T[i]:=N5 (by omega);obtain ⟨y,C,B⟩:=Af 0 m r hi;rw [lD hi,tT,gE r w i (by omega),bq C,ie,rC,Me];congr 1;obtain ⟨H,A⟩:=Ae m s 0 w _ (wh C);obtain ⟨y,a⟩:=y;cases y with
  |lf G=>rw [Χ (by rw [show T[i].pr= -1 from congrArg Prod.fst B];decide)];rfl
  |nd D F=>unfold wx at A;obtain ⟨p,E,_⟩:=A;have:=(bG E).1;rw [Υ (by rw [show T[i].pr=D from congrArg Prod.fst B];omega)];rfl
end
instance:Mem (Nat×Nat) where
 n:=5
 rep _ x c:=∃(k:Int) (b:Bool) (s:Sl),c= #[vi (x.1:Int),vi (x.2:Int),vi k,oY b,s.v]
 len h:=by obtain ⟨k,b,s,rfl⟩:=h;rfl
 le _ h:=h
 st h:=by obtain ⟨k,b,s,rfl⟩:=h;simp [ak,nV]
theorem Ts:∃b z,SlT 87 140 5 b z:=⟨_,_,underlying87,qdC,qdI,rfl,by decide,by decide⟩
structure Spw where
 g:Gr
 cs:Sl
 n:Sl
 tk:Sl
 s:Sl
 p:Sl
 lv:Sl
 f:Sl
abbrev Spw.arr (w:Spw) (tx:ByteArray) (ws rs:Sl) (en st:Int):Γ:= #[w.cs.v,w.n.v,vi w.g.fam.2,w.tk.v,w.s.v,w.p.v,vi w.g.start,w.lv.v,w.f.v,pg tx,ws.v,rs.v,vi en,vi st]
abbrev Spw.gv (w:Spw):Γ:=w.g.arr w.cs w.n w.tk w.s w.p w.lv w.f
abbrev SB (bx:Nat) (w:Spw) (tx:ByteArray) (ws rs:Sl) (en st:Int) (As:List (Ψ)):List (Ψ):=pt bx (mX (w.arr tx ws rs en st) 135)::As
theorem QQ {α h:Type} {F:PH} (L:(α->h->Ω)->α->h->Ω) {n D K:_} {r:Int} (Inv:Ψ) (H:Inv F) (hi: -1<=r/\r<n)
  (step:∀(x:α) (y:h) (i:Int) (F:PH) (N:α->h->Ω),-1<=i->i<n->Inv F->(∀A B g,0<=i->Inv g->N A B (i - 1) g)->L N x y i F):
  ∃(I:Nat->α->h->Ω) (m:Nat),I m D K r F/\∀m x y i F,I m x y i F->L (λa b c F=>∃w,w<m/\I w a b c F) x y i F:=by
 refine ⟨λm x y i g=>Inv g/\-1<=i/\i<n/\m=(i+1).toNat,(r+1).toNat,⟨H,hi.1,hi.2,rfl⟩,?_⟩;rintro m x y i g ⟨M,G,J,rfl⟩;exact step x y i g _ G J M λA B E O C=>⟨(i - 1+1).toNat,by omega,C,by omega,by omega,rfl⟩
section
variable {F G:PH} {w:Spw} {bx:Nat} {tx s:ο} {ws rs:Sl} {en st:Int} {As:List (Ψ)}
theorem qhN (B:F.cell (pd bx 9 nC)=mB (pg tx)) (L:tx.size<=1000000000):ν 89 #[Pp bx] F λr A=>(∃n b,r=sj #[vi n,oY b])/\A=F:=by
 refine qgy ?_;unfold Uo;refine ⟨_,rfl,_,B,QQ (λN x y i A=>AZ N (pd bx 0 nC) _ x y i A) (n:=(tx.size:Int)) (λA=>A=F) rfl ?_ ?_⟩
 ·rw [aL (by omega)];omega
 intro n o i A N K E e next;subst e;unfold AZ;have H:∀(I:Int) (J:Bool),0<=i->rb N (pd bx 0 nC) i I J (λr D=>(∃n b,r=sj #[vi n,oY b])/\D=A) A:=λI J g=>by unfold rb;rw [aL (by omega)];exact next _ _ _ g rfl
 have C:0<=i->i.toNat<tx.size:=λh=>by omega
 exact ⟨λg=>⟨_,B,g,E,C g,_,rfl,λ_=>⟨λ_=>⟨_,B,g,E,C g,_,rfl,λ_=>H _ _ g,λ_=>⟨_,B,g,E,C g,_,rfl,H _ _ g⟩⟩,λ_=>H _ _ g⟩,λ_=>⟨⟨_,_,rfl⟩,rfl⟩⟩,λ_=>⟨⟨_,_,rfl⟩,rfl⟩⟩
theorem qM {tok:Int} (h:St G F (SB bx w tx ws rs en st As)) (M:tx.size+s.size<=1000000000):
  ν 58 #[Pp bx,pg s,vi tok] F λr B=>∃A c,r=oc c/\Mem.rep A ((tx.size,tx.size+s.size):Nat×Nat) c/\G.le A/\St A B (SB bx w (tx++s) ws rs en st As):=by
 refine qe9 ?_;unfold Ug;refine h.new λE N h=> ?_;refine (qhN (h.ld1 (i:=9) rfl) (by omega)).mono ?_;rintro _ F2 ⟨⟨n,o,rfl⟩,rfl⟩;have e:i64.wrap ((tx.size:Int)+(s.size:Int))=((tx.size+s.size:Nat):Int):=by rw [aL (by omega)];omega
 refine ⟨_,_,rfl,_,rfl,_,h.ld1 (i:=9) rfl,_,h.ld1 (i:=9) rfl,?_⟩;dsimp only;rw [e];have H:∀{A B:PH} {C g:Nat},G.le A->St A B (pt C (mX #[vi (tx.size:Int),vi ((tx.size+s.size:Nat):Int),vi n,oY o,nV (Sb g 1)] 140)::pt E (mX #[vi 0,vi 0,vi 0,.bool nS,.slice nC 0 0] 140)::SB bx w tx ws rs en st As)->vA (mB (pd bx 0 nC)) s E (mB (Am C 0)) (λr B=>∃A c,r=oc c/\Mem.rep A ((tx.size,tx.size+s.size):Nat×Nat) c/\G.le A/\St A B (SB bx w (tx++s) ws rs en st As)) B:=λ{A B C g} l h=>by unfold vA;refine ⟨_,rfl,_,h.ld2 (i:=9) rfl,by omega,h.set2 (w':=w.arr (tx++s) ws rs en st) (vp rfl) rfl λJ h=>⟨_,rfl,_,rfl,h.whole0,?_⟩⟩;exact h.put1 (w':= #[vi (tx.size:Int),vi ((tx.size+s.size:Nat):Int),vi n,oY o,nV (Sb g 1)]) rfl rfl (by simp [ak,nV]) λI h=>⟨_,rfl,h.whole1,A,_,rfl,⟨_,_,_,rfl⟩,l,h.tail.tail⟩
 refine ⟨h.newG λg L J D q _ h=>h.new λC I h=>h.put0 (w':= #[vi (tx.size:Int),vi ((tx.size+s.size:Nat):Int),vi n,oY o,nV (Sb g 1)]) rfl rfl (by simp [ak,nV]) λK h=>H D h,h.new λC J h=>h.newG λg L I D q _ h=>h.put0 (w':= #[vi (tx.size:Int),vi ((tx.size+s.size:Nat):Int),vi n,oY o,nV (Sb g 1)]) rfl rfl (by simp [ak,nV]) λK h=>H D h⟩
theorem kj {l:Sl} {L:List ο} {Y:Ξ} (ht:RL G w.tk w.g.qa2) (hT:w.g.qa2.length<=256) (hl:RL G l L) (hL:∀x∈L,ByteArray.size x<=4) (b1:L.length<=3) (c8:tx.size<=900000000) (b6:rs.len<=300000000)
  (h:St G F (SB bx w tx ws rs en st (own rs 140 5 Y::As))):
  ν 57 #[Pp bx,l.v] F λr D=>r=sj #[]/\∃(C:PH) (y:ο) (A:Sl) (B:Ξ),G.le C/\y.size<=15/\A.len<=rs.len+3/\St C D (SB bx w (tx++y) ws A en st (own A 140 5 B::As)):=by
 have el:=hl.len;have et:=ht.len;refine qe8 ?_;unfold Uf;refine bC (λN i D=>AR N (mB (pd bx 0 nC)) l _ i D) L.length (λi D=>∃(C:PH) (y:ο) (A:Sl) (B:Ξ),G.le C/\y.size<=5*i/\A.len<=rs.len+i/\St C D (SB bx w (tx++y) ws A en st (own A 140 5 B::As))) ⟨G,.empty,rs,Y,au _,yM _,tI _,by rw [show tx++ByteArray.empty=tx from ByteArray.append_empty];exact h⟩ ?_;rintro i F1 N hi ⟨G1,y,E,H,l1,hy,b0,h⟩ next;unfold AR;refine ⟨λJ=> ?_,λb5=>⟨rfl,G1,y,E,H,l1,by omega,by omega,h⟩⟩;have J:i<L.length:=by omega
 have hx:L[i]? =mB L[i]:=N5 J;have a9:=hL _ (Vw J);generalize L[i]=x at hx a9;have j1:∀{C D:PH} {y':ο} {A:Sl} {B:Ξ},G1.le C->y'.size<=5*(i+1)->A.len<=rs.len+(i+1)->St C D (SB bx w (tx++y') ws A en st (own A 140 5 B::As))->vz N (mB (pd bx 0 nC)) l i (λr D=>r=sj #[]/\∃(C:PH) (y:ο) (A:Sl) (B:Ξ),G.le C/\y.size<=15/\A.len<=rs.len+3/\St C D (SB bx w (tx++y) ws A en st (own A 140 5 B::As))) D:=λ{C D y' A B} X a b h=>by unfold vz;rw [aD J];exact next _ J ⟨C,y',A,B,aa l1 X,a,b,h⟩
 refine bC (λN2 t D=>AQ N N2 (mB (pd bx 0 nC)) l i _ t D) w.g.qa2.length (λ_ D=>∃C:PH,G1.le C/\St C D (SB bx w (tx++y) ws E en st (own E 140 5 H::As))) ⟨G1,au _,h⟩ ?_;rintro t F2 N2 b9 ⟨G2,X,h⟩ U;have a0:=aa l1 X;unfold AQ;refine ⟨_,rfl,w.tk,h.ld0 (i:=3) rfl,λI=> ?_,λ_=>j1 X (by omega) (by omega) h⟩;have I:t<w.g.qa2.length:=by omega
 have n2:∀{C D:PH},G2.le C->St C D (SB bx w (tx++y) ws E en st (own E 140 5 H::As))->N2 (i64.wrap ((t:Int)+1)) D:=λl h=>by rw [aD I];exact U _ I ⟨_,aa X l,h⟩
 have a4:∀{C D:PH},G2.le C->St C D (SB bx w (tx++y) ws E en st (own E 140 5 H::As))->qZ N N2 (pd bx 0 nC) l i t nS (λr D=>r=sj #[]/\∃(C:PH) (y:ο) (A:Sl) (B:Ξ),G.le C/\y.size<=15/\A.len<=rs.len+3/\St C D (SB bx w (tx++y) ws A en st (own A 140 5 B::As))) D:=λl h=>by unfold qZ;exact ⟨λhn=>(by cases hn),λ_=>n2 l h⟩
 refine ⟨w.tk,h.ld0 (i:=3) rfl,?_⟩;have a5:=ht.le a0;have Z:=hl.le a0;refine u9 a5 (by decide) (by omega) (by omega) λb8 cc z hz M hc=> ?_;have W:=aO h.le M;obtain ⟨p9,n9,e9,_⟩:=id hc;refine ⟨z.cls,aN W (i:=1) (by rw [e9];rfl),λb2=> ?_,λ_=>a4 (au _) h⟩;refine ⟨w.tk,h.ld0 (i:=3) rfl,u9 a5 (by decide) (by omega) (by omega) λc7 c2 z2 c6 V a1=>⟨c2,Mem.len a1,aO h.le V,?_⟩⟩;refine u9 Z (by decide) (by omega) (by omega) λb4 c3 x3 a6 R a8=> ?_;rw [N4,hx] at a6;cases a6;obtain rfl:c3= #[pg x]:=a8;refine ⟨x,aF (aO h.le R) rfl,?_⟩;refine h.run (P:=λr _=>∃b,r=oY b) (gW a1 (by omega)) λr G3 F3 hr l3 h=> ?_;obtain ⟨b,rfl⟩:=hr;have a3:=aN (aO (aa l3 h.le) M) (i:=1) (v:=vi z.cls) (by rw [e9];rfl);refine ⟨b,rfl,h.ld0 (i:=3) rfl,a3,h.ld0 (i:=3) rfl,?_⟩;cases b with
 |false=>exact a4 l3 h
 |true=>unfold qZ;refine ⟨λ_=> ?_,λhn=>(by cases hn)⟩;refine ⟨E,h.ld0 (i:=11) rfl,?_⟩;refine u9 (Z.le l3) (by decide) (by omega) (by omega) λb3 c4 x4 K O a7=> ?_;rw [N4,hx] at K;cases K;obtain rfl:c4= #[pg x]:=a7;refine ⟨x,aF (aO h.le O) rfl,?_⟩;refine (qM h (by rw [ByteArray.size_append];omega)).mono ?_;rintro _ F4 ⟨G4,c5,rfl,Q,l4,h⟩;obtain ⟨_,_,TV⟩:=Ts;refine ⟨c5,rfl,h.ld0 (i:=11) rfl,Mem.len Q,?_⟩;refine h.push1 TV (c:=c5) (Mem.len Q) (Mem.st Q) (by omega) λa2 G5 F5 l5 h b7=> ?_;refine h.set0 (w':=w.arr (tx++y++x) ws a2 en st) (vp rfl) rfl λF6 h=> ?_;refine ⟨_,h.ld0 (i:=9) rfl,by rw [ByteArray.size_append,ByteArray.size_append];show _+1<=_;omega,?_⟩;refine h.set0 (w':=w.arr (tx++y++x++ByteArray.mk #[10]) ws a2 en st) (vp rfl) rfl λF7 h=> ?_;rw [ByteArray.append_assoc,ByteArray.append_assoc] at h;exact j1 (aa X (aa l3 (aa l4 l5))) (by rw [ByteArray.size_append,ByteArray.size_append];show _+(_+1)<=_;omega) (by omega) h
end
theorem QR {α g:Type} {F:PH} (L:(α->g->Ω)->α->g->Ω) (n:Nat) (Inv:Nat->α->g->Ψ) (B:α) (D:g) (J:Inv 0 B D F)
  (step:∀(k:Nat) (x:α) (y:g) (F:PH) (N:α->g->Ω),k<=n->Inv k x y F->(∀r w h,k<n->Inv (k+1) r w h->N r w ((k+1:Nat):Int) h)->L N x y (k:Int) F):
  ∃(I:Nat->α->g->Ω) (m:Nat),I m B D (0:Int) F/\∀m x y v F,I m x y v F->L (λa b c F=>∃C,C<m/\I C a b c F) x y v F:=by
 refine ⟨λm x y i h=>∃k:Nat,i=k/\k<=n/\m=n - k/\Inv k x y h,n,⟨0,rfl,by omega,rfl,J⟩,?_⟩;rintro m x y i h ⟨k,rfl,H,rfl,hi⟩;exact step k x y h _ H hi λr w G E A=>⟨n - (k+1),by omega,k+1,rfl,by omega,rfl,A⟩
theorem QS {α:Type} {F:PH} (L:(α->Ω)->α->Ω) (i n:Nat) (Inv:Nat->α->Ψ) (w:α) (D:Inv 0 w F)
  (step:∀(k:Nat) (x:α) (F:PH) (N:α->Ω),k<=n->Inv k x F->(∀h g,k<n->Inv (k+1) h g->N h ((i+k+1:Nat):Int) g)->L N x ((i+k:Nat):Int) F):
  ∃(I:Nat->α->Ω) (m:Nat),I m w (i:Int) F/\∀m x v F,I m x v F->L (λy z F=>∃A,A<m/\I A y z F) x v F:=by
 refine ⟨λm x j g=>∃k:Nat,j=((i+k:Nat):Int)/\k<=n/\m=n - k/\Inv k x g,n,⟨0,rfl,by omega,rfl,D⟩,?_⟩;rintro m x j g ⟨k,rfl,C,rfl,hi⟩;exact step k x g _ C hi λh B E r=>⟨n - (k+1),by omega,k+1,rfl,by omega,rfl,r⟩
abbrev kI (l:List Nod):Ξ:=l.flatMap λx=>x.arr.toList
theorem RL.nods {F:PH} {s:Sl} {l:List Nod}:RL F s l↔RdS F s 4 (kI l):=RL.flat (f:=Nod.arr) (λ_ _ _=>Iff.rfl)
structure SpO (T:List Tmn) (m:Ttr) (tx:ByteArray) (ws:List (Nat×Nat)):Prop where
 wd:WdI (lvs T) tx ws
 len:ws.length=yF m
 sz:tx.size<=100000000
abbrev zk (tx:ByteArray) (ws:List (Nat×Nat)) (m:Ttr):Dtr:=yd (XC ws) (V0 ws tx.size) 0 m
def Y3 (F:PH) (T:List Tmn) (m:Ttr) (r:ξ) (F':PH):Prop:=∃(tx:ο) (p:Γ) (t:Sl) (ws:List (Nat×Nat)),r=sj #[pg tx,oc p,t.v]/\p.size=4/\(∀x∈p.toList,ak x)/\SpO T m tx ws/\RL F' t (vq (zk tx ws m))/\F.le F'
section
variable {F G:PH} {w:Spw} {bx:Nat} {ws:List (Nat×Nat)} {g:Gr} {c:Cf} {T:List Tmn} {m:Ttr} {tx:ο} {wl:Sl}
theorem QT {e j:Nat} {x:Nat×Nat} (h:ws[j]? =mB x):V0 ws e j=(x.1:Int):=by unfold V0;rw [Χ (N6.1 h).1,Vb,h];rfl
theorem Ah {j:Nat} {x:Nat×Nat} (h:ws[j]? =mB x):XC ws j=((x.1:Int),(x.2:Int)):=by unfold XC;rw [Vb,h];rfl
theorem xU {L:Sl} {st:Int} {e k:Nat} (E:RL F wl ws):ν 60 #[oc #[wl.v,L.v,vi (e:Int),vi st],vi (k:Int)] F λr I=>r=vi (V0 ws e k)/\F.le I:=by
 have U:=E.len;refine qfa ?_;unfold Ui;refine (St.start F).newG λV Q P D q2 _ h=> ?_;have q:=h.le _ _ q2;have C:=aa D h.le;refine ⟨wl,ld q rfl,λK=>⟨wl,ld q rfl,?_⟩,λH=>⟨_,ld q (i:=2) rfl,?_,C⟩⟩
 ·refine u9 (E.le D) (by decide) (by omega) (by omega) λa O x B A J=> ?_;rw [N4] at B;obtain ⟨M,N,R,rfl⟩:=J;exact ⟨_,aF (aO h.le A) rfl,by rw [QT B],C⟩
 ·unfold V0;rw [Υ (by omega)]
theorem LA {i:Nat} {rest:List (Int×Int)} (h:(T.map Tmn.key).drop i=Vh m++rest):((T.drop i).take (yP m)).map Tmn.key=Vh m:=by rw [List.map_take,List.map_drop,h,<- eO m,List.take_left]
theorem LB {s:Sy} {i:Nat} {rest:List (Int×Int)} (h:(T.map Tmn.key).drop i=Vh m++rest) (A:wx g c s m):(lvs ((T.drop i).take (yP m))).length=yF m:=by have r:=LA h;have B:=congrArg List.length r;rw [vb,eO] at B;have:=gE r A (yP m) (by omega);rw [List.take_take,Nat.min_self] at this;rw [this,show yP m=(w5 0 m).length from rfl,wV,vW]
theorem qhO {vg:Γ} {n tl rl:Sl} {b3 b4 b7 O:Nat} {st:Int} {s:Sy} {R:VR} {z7:Γ} {As:List (Ψ)} (q3:G b3=mB (mX vg 39)) (hg:GV G vg g) (q4:G b4=mB (mX #[n.v,tl.v] 94)) (hn:RL G n T) (a4:G O=mB (mX (w.arr tx wl rl (tx.size:Int) st) 135)) (hw:RL G wl ws)
  (hk:T.map Tmn.key=Vh m) (b2:wx g c s m) (ho:∀x∈T,Y0 g x) (hT:T.length<=1000000) (g1:ws.length=yF m) (h:St G F (pt b7 (mX z7 89)::As)) (d3:z7.size=4)
  (hR:∀B C t,G.le B->RL B t (vq (zk tx ws m))->St B C As->R (sj #[pg tx,oc #[wl.v,rl.v,vi (tx.size:Int),vi st],t.v]) C):
  ∃(I1:Nat->Sl->Int->Ω) (m1:Nat),I1 m1 pk (0:Int) (0:Int) F/\∀m1 o k i F,I1 m1 o k i F->vv (λy0 y1 y2 F=>∃m',m'<m1/\I1 m' y0 y1 y2 F) b3 b4 b7 O R o k i F:=by
 have en:=hn.len;have ew:=hw.len;have d2:T.length=yP m:=by have:=congrArg List.length hk;rwa [vb,eO] at this
 have b8:vq (zk tx ws m)=(w5 0 m).map λx=>(yd (XC ws) (V0 ws tx.size) x.2 x.1).root:=Iu _ _ m 0;have e8:∀i,i<=T.length->(lvs (T.take i)).length<=yF m:=λi hi=>by rw [gE hk b2 i hi,<- vW m 0];have:=ie ((w5 0 m).take i) ((w5 0 m).drop i);rw [WY] at this;omega
 have h:=(h.push (A:=own pk 47 4 (kI [])) (H:=λ_=>nC) (.inl ⟨rfl,rfl⟩) (λb hb=>absurd rfl hb) (λb o hb=>by cases hb) (au _));refine QR (λN x y v F=>vv N b3 b4 b7 O _ x y v F) T.length (λi o k C=>∃B:PH,G.le B/\k=((lvs (T.take i)).length:Int)/\St B C (own o 47 4 (kI ((vq (zk tx ws m)).take i))::pt b7 (mX z7 89)::As)) pk 0 ⟨G,au _,rfl,h⟩ ?_;rintro i o _ F1 N hi ⟨G1,W,rfl,h⟩ next;unfold vv;refine ⟨n,ld (h.le _ _ (W _ _ q4)) rfl,λa3=> ?_,λg3=> ?_⟩
 ·have a3:i<T.length:=by omega
  have ol:=(h.ownAt (i:=0) rfl).1.rd.len;have f9:o.len<=1000000:=by
   have h1:(kI ((vq (zk tx ws m)).take i)).length=((vq (zk tx ws m)).take i).length*4:=by
    generalize (vq (zk tx ws m)).take i=l;induction l with
    |nil=>rfl
    |cons x l ih=>rw [wo,Wa,<- ih];show (x.arr.toList++kI l).length=_;rw [tT,XM];rfl
   rw [h1] at ol;have:=List.length_take_le i (vq (zk tx ws m));omega
  have hx:T[i]? =mB T[i]:=N5 a3;generalize T[i]=x at hx;obtain ⟨⟨ym,a⟩,hy,K⟩:=Af 0 m hk hx;have Z:a=(lvs (T.take i)).length:=by have:=RA m 0 i _ hy;rw [gE hk b2 i hi];omega
  obtain ⟨sy,a1⟩:=Ae m s 0 b2 _ (wh hy);have b0:(vq (zk tx ws m))[i]? =mB (yd (XC ws) (V0 ws tx.size) a ym).root:=by rw [b8,yr,hy];rfl
  have b5:(vq (zk tx ws m)).take (i+1)=(vq (zk tx ws m)).take i++[(yd (XC ws) (V0 ws tx.size) a ym).root]:=bq b0;have a0:=lD hx;have g5:a<=1000000:=by have h1:(lvs (T.take i)).length<=(T.take i).length:=List.length_filterMap_le _ _;have:=List.length_take_le i T;omega
  have j4:∀{B C:PH} {M:Nat} {k':Int} {y:Nod},G1.le B->(yd (XC ws) (V0 ws tx.size) a ym).root=y->k'=((lvs (T.take (i+1))).length:Int)->St B C (pt M (mX y.arr 47)::own o 47 4 (kI ((vq (zk tx ws m)).take i))::pt b7 (mX z7 89)::As)->vr N b3 b4 b7 O o i M k' R C:=λ{B C M k' y} l e e2 h=>by unfold vr;obtain ⟨_,_,TV⟩:=NW;refine ⟨y.arr,rfl,h.whole0,rfl,?_⟩;refine h.push1 TV (c:=y.arr) rfl (by simp [ak]) (by omega) λo' G2 F2 l2 h _=> ?_;unfold HJ;rw [aD a3,e2];refine next _ _ _ a3 ⟨G2,aa W (aa l l2),rfl,?_⟩;rw [b5,e];show St G2 F2 (own o' 47 4 (List.flatMap (λx:Nod=>x.arr.toList) (_++[y]))::_);rw [XV];simpa using h.tail
  have b9:=hn.le W;refine ⟨n,ld (h.le _ _ (W _ _ q4)) rfl,?_⟩;refine u9 b9 (by decide) (by omega) (by omega) λf6 cc x' Q c7 hc=> ?_;rw [N4,hx] at Q;cases Q;obtain ⟨r,rfl,_⟩:=id hc;refine ⟨x.pr,aF (aO h.le c7) rfl,n,ld (h.le _ _ (W _ _ q4)) rfl,?_⟩;refine u9 b9 (by decide) (by omega) (by omega) λf4 g6 x' Q a9 e4=> ?_;rw [N4,hx] at Q;cases Q;obtain ⟨r2,rfl,_⟩:=e4;refine ⟨x.tk,aN (aO h.le a9) (i:=1) rfl,?_⟩;refine h.new λM F2 h=>h.put0 (w':= #[vi x.pr,vi x.tk,vi 0,vi 0]) rfl rfl (by simp [ak]) λF3 h=> ?_;refine ⟨x.pr,h.ld0 (i:=0) rfl,λc2=> ?_,λe0=> ?_⟩
  ·
   rw [Χ c2] at a0;have ek:(lvs (T.take (i+1))).length=a+1:=by rw [a0,tT,<- Z];rfl
   have ha:a<ws.length:=by have:=e8 (i+1) (by omega);omega
   have a2:ws[a]? =mB ws[a]:=N5 ha;generalize ws[a]=u at a2;have e9:∃tk,ym=.lf tk/\x.pr= -1/\x.tk=tk:=by
    cases ym with
    |lf tk=>exact ⟨tk,rfl,congrArg Prod.fst K,congrArg Prod.snd K⟩
    |nd L Y=>unfold wx at a1;obtain ⟨p,p1,_⟩:=a1;have:=(bG p1).1;have e:x.pr=L:=congrArg Prod.fst K;omega
   obtain ⟨tk,rfl,e1,e2⟩:=e9;have X:∀{B C:PH},G1.le B->B.le C->C.cell (pd O 10 nC)=mB wl.v:=λl l'=>ld (l' _ _ (l _ _ (W _ _ a4))) (i:=10) rfl;rw [<- Z];refine ⟨wl,X (au _) h.le,?_⟩;refine u9 (hw.le W) (by decide) (by omega) (by omega) λf8 c3 u' P a8 e7=> ?_;rw [N4,a2] at P;cases P;obtain ⟨k1,k2,k3,rfl⟩:=e7;refine ⟨_,aF (aO h.le a8) rfl,?_⟩;refine h.set0 (w':= #[vi x.pr,vi x.tk,vi (u.1:Int),vi 0]) (vp rfl) rfl λF4 h=> ?_;refine ⟨wl,X (au _) h.le,?_⟩;refine u9 (hw.le W) (by decide) (by omega) (by omega) λf3 c4 u' P a7 d1=> ?_;rw [N4,a2] at P;cases P;obtain ⟨k4,k5,k6,rfl⟩:=d1;refine ⟨_,aN (aO h.le a7) (i:=1) rfl,?_⟩;refine h.set0 (w':= #[vi x.pr,vi x.tk,vi (u.1:Int),vi (u.2:Int)]) (vp rfl) rfl λF5 h=> ?_;refine j4 (y:=⟨x.pr,x.tk,u.1,u.2⟩) (au _) ?_ ?_ h
   ·unfold yd;show (⟨-1,tk,_,_⟩:Nod)=_;rw [Ah a2,e1,e2]
   ·rw [aD (n:=1000001) (by omega) (by omega),ek]
  ·
   rw [Υ e0,yD] at a0;have f1:∃L Y,ym=.nd L Y/\x.pr=L/\x.tk= -1:=by
    cases ym with
    |lf tk=>have e:x.pr= -1:=congrArg Prod.fst K;omega
    |nd L Y=>exact ⟨L,Y,rfl,congrArg Prod.fst K,congrArg Prod.snd K⟩
   obtain ⟨L,Y,rfl,e1,e2⟩:=f1;have U:∃rest,(T.map Tmn.key).drop i=Vh (.nd L Y)++rest:=by obtain ⟨b,d,e,hb⟩:=FK m 0 i _ hy;refine ⟨d.map λx=>kR x.1,?_⟩;rw [hk,<- vX 0 m,e,yO,yO,<- hb,<- vb (f:=λx:Ttr×Nat=>kR x.1),yb,List.drop_left,vX]
   obtain ⟨rest,U⟩:=U;have c6:=LB U a1;have g2:i+yP (.nd L Y)<=T.length:=by have:=congrArg List.length U;rw [WL,vb,tT,eO] at this;have:=kS (.nd L Y);omega
   rw [<- Z];generalize hz:yP (.nd L Y)=z at*;refine QS (λN2 x v F=>AM N N2 b3 b4 b7 O o a i M R x v F) i z (λd q C=>∃B:PH,G1.le B/\q=((a+(lvs ((T.drop i).take d)).length:Nat):Int)/\St B C (pt M (mX #[vi x.pr,vi x.tk,vi 0,vi 0] 47)::own o 47 4 (kI ((vq (zk tx ws m)).take i))::pt b7 (mX z7 89)::As)) (a:Int) ⟨G1,au _,rfl,h⟩ ?_;rintro d _ F4 N2 hd ⟨G2,l2,rfl,h⟩ V;have I:=aa W l2;unfold AM;refine ⟨vg,hg.size,ai (h.le _ _ (I _ _ q3)),n,ld (h.le _ _ (I _ _ q4)) rfl,?_⟩;refine h.runv (GL ho hT _ (hg.le I) (hn.le I) a1 U) λG3 F5 l3 h=>⟨_,rfl,λD=> ?_,λc8=> ?_⟩
   ·rw [hz] at D;have D:d<z:=by omega
    have J:=aa I l3;refine ⟨n,ld (h.le _ _ (J _ _ q4)) rfl,?_⟩;refine u9 (hn.le J) (by decide) (by omega) (by omega) λf5 c5 x5 d0 a6 d4=> ?_;rw [N4] at d0;obtain ⟨r5,rfl,_⟩:=d4;have b1:(T.drop i)[d]? =mB x5:=by rw [List.getElem?_drop];exact d0
    have e5:=congrArg List.length (lD b1);rw [tT] at e5;have g4:(lvs ((T.drop i).take d)).length<=T.length:=by unfold lvs;refine Wl (List.length_filterMap_le _ _) ?_;have:=List.length_take_le' d (T.drop i);rw [WL] at this;omega
    refine ⟨x5.pr,aF (aO h.le a6) rfl,λa5=> ?_,λa5=> ?_⟩
    ·unfold vu;rw [Χ a5] at e5;have e6:i64.wrap (((a+(lvs ((T.drop i).take d)).length:Nat):Int)+1)=((a+(lvs ((T.drop i).take (d+1))).length:Nat):Int):=by rw [aL (by omega),e5,Vc];omega
     rw [e6,aD (n:=1000000) (by omega) (by omega)];exact V _ _ D ⟨G3,aa l2 l3,rfl,h⟩
    ·unfold vu;rw [Υ a5] at e5;rw [aD (n:=1000000) (by omega) (by omega)];refine V _ _ D ⟨G3,aa l2 l3,?_,h⟩;rw [e5];rfl
   ·rw [hz] at c8;have:d=z:=by omega
    subst this;rw [c6];have J:=aa I l3;have E:=h.le _ _ (J _ _ a4);unfold HK;refine ⟨#[wl.v,rl.v,vi (tx.size:Int),vi st],rfl,fZ E rfl,?_⟩;refine h.runv (xU (hw.le J)) λG4 F6 l4 h=>⟨_,rfl,?_⟩;refine h.set0 (w':= #[vi x.pr,vi x.tk,vi (V0 ws tx.size a),vi 0]) (vp rfl) rfl λF7 h=> ?_;have c9:=aa J l4;refine ⟨#[wl.v,rl.v,vi (tx.size:Int),vi st],rfl,fZ (h.le _ _ (c9 _ _ a4)) rfl,?_⟩;refine h.runv (xU (hw.le c9)) λG5 F8 l5 h=>⟨_,rfl,?_⟩;refine h.set0 (w':= #[vi x.pr,vi x.tk,vi (V0 ws tx.size a),vi (V0 ws tx.size (a+yF (.nd L Y)))]) (vp rfl) rfl λF9 h=> ?_;refine j4 (y:=⟨x.pr,x.tk,_,_⟩) (aa l2 (aa l3 (aa l4 l5))) ?_ ?_ h
    ·unfold yd;show (⟨L,-1,_,_⟩:Nod)=_;rw [e1,e2];rfl
    ·rw [a0,Z]
 ·have:i=T.length:=by omega
  subst this;have b6:(vq (zk tx ws m)).take T.length=vq (zk tx ws m):=by refine yY ?_;rw [b8,vb,d2];exact tI _
  rw [b6] at h;have E:=λ{C:PH} (l:G1.le C)=>l _ _ (W _ _ a4);unfold HI;refine ⟨tx,ld (E h.le) (i:=9) rfl,#[wl.v,rl.v,vi (tx.size:Int),vi st],rfl,fZ (E h.le) rfl,?_⟩;refine h.put1 (w':= #[wl.v,rl.v,vi (tx.size:Int),vi st]) rfl d3 (by simp [ak,nV]) λF2 h=>⟨_,rfl,h.whole1,?_⟩;obtain ⟨G2,l2,e3,h⟩:=h.pinO;exact hR G2 F2 o (aa W l2) (RL.nods.2 e3) h.tail
end
theorem Tt {C g r E A h D B w:ξ}:wr (#[tU nC 0 0,.slice nC 0 0,vi 0,.slice nC 0 0,.slice nC 0 0,.slice nC 0 0,vi 0,.slice nC 0 0,.slice nC 0 0,.string ⟨#[]⟩,tU nC 0 0,.slice nC 0 0,vi 0,vi 0]:Γ) 0 (#[C,g,r,E,A,h,D,B,w]:Γ).toList= #[C,g,r,E,A,h,D,B,w,.string .empty,tU nC 0 0,.slice nC 0 0,vi 0,vi 0]:=by kernel_rfl
section
variable {F G:PH} {g:Gr} {c:Int} {T:List Tmn} {m:Ttr} {tl:List ο}
theorem GN {G F:PH} {As:List (Ψ)} {o:Sl} {e i:Nat} {vs:List Γ} {w:List (Nat×Nat)} (A:bT G w vs) (h:St G F As) (hi:As[i]? =mB (own o e 5 (uX vs))):o.len=w.length:=by have r:=(h.ownAt hi).1.rd.len;rw [A.cat_len] at r;have r:w.length*5=o.len*5:=r;omega
def ZI (G0:PH) (b7 b22:Nat) (w:Spw) (T:List Tmn) (i:Nat) (o:Sl) (F:PH):Prop:=
 ∃(G:PH) (tx:ο) (wl rl:Sl) (ws:List (Nat×Nat)) (vs:List Γ) (rv is:Ξ),G0.le G/\WdI (lvs (T.take i)) tx ws/\tx.size<=1016*i/\rl.len<=3*i/\is.length=ws.length/\bT G ws vs/\
  St G F (SB b22 w tx wl rl 0 0 [own rl 140 5 rv,own wl 140 5 (uX vs),own o 3 1 is,pt b7 (mX #[tU nC 0 0,.slice nC 0 0,vi 0,vi 0] 89)])
theorem Ai {w:Spw} {s:Sy} {n t:Sl} {b3 b4 X J:Nat} {F0:PH} {o:Sl} (lF:F0.le G) (I:GS G w.g w.cs w.n w.tk w.s w.p w.lv w.f) (P:w.g.qa2.length<=256) (q3:G b3=mB (mX w.gv 39)) (q4:G b4=mB (mX #[n.v,t.v] 94)) (hn:RL G n T) (ht:RL G t tl)
  (L:T.map Tmn.key=Vh m) (C:wx w.g (wP c) s m) (a2:yP m<=44537) (O:∀x∈T,TmO x) (t3:tl.length<=3) (t4:∀x∈tl,ByteArray.size x<=4) (hI:ZI G X J w T T.length o F):AN b3 b4 X J (Y3 F0 T m) F:=by
 obtain ⟨G1,tx,Y,rl,ws,vs,rv,is,M,r,a3,a1,a0,hr,h⟩:=hI;have U:T.length=yP m:=by have:=congrArg List.length L;rwa [vb,eO] at this
 rw [wV] at r;have E:ws.length=yF m:=by have:=gE L C T.length (tI _);rw [wV] at this;rw [r.len,this,U,show yP m=(w5 0 m).length from rfl,wV,vW]
 unfold AN;refine ⟨t,ld (h.le _ _ (M _ _ q4)) (i:=1) rfl,?_⟩;refine (kj (I.t.le M) P (ht.le M) t4 t3 (by omega) (by omega) h).mono ?_;rintro _ F2 ⟨rfl,G2,y,K,a4,W,hy,_,h⟩;have B:(tx++y).size<=100000000:=by rw [ByteArray.size_append];omega
 have r:=r.grow y;generalize tx++y=D at r h B;refine ⟨rfl,D,h.ld0 (i:=9) rfl,?_⟩;refine h.set0 (w':=w.arr D Y K (D.size:Int) 0) (vp rfl) rfl λF3 h=> ?_;refine h.set0 (w':=w.arr D Y K (D.size:Int) (-1)) (vp rfl) rfl λF4 h=> ?_;obtain ⟨G3,Z,⟨H,hA,hH⟩,h⟩:=h.pin;have V:=hH _ _ hA;obtain ⟨G4,Q,N,h⟩:=h.tail.pinO;have A:=aa M (aa W (aa Z Q));refine qhO (As:=[]) (A _ _ q3) ⟨_,_,_,_,_,_,_,rfl,I.le A⟩ (A _ _ q4) (hn.le A) (Q _ _ V) ⟨vs,hr.le (aa W (aa Z Q)),N⟩ L C (QP L C O) (by omega) E h.tail rfl ?_;intro G' F' tt l' R h;exact ⟨D,_,tt,ws,rfl,rfl,by simp [ak,nV],⟨r,E,B⟩,R.le h.le,aa lF (aa A (aa l' h.le))⟩
theorem oq {v vt:Γ} {s:Sy} {l:Sl} {N:Δ} (hg:GV F v g) (hk:OkG g) (hm:TmV F g c s vt T tl m) (hl:RdS F l 1 (N.map vB)):ν 28 #[oc v,oc vt,l.v] F (Y3 F T m):=by
 obtain ⟨⟨n,t,rfl,hn,ht⟩,b2,d3,d0,a8,t3,t4⟩:=hm;obtain ⟨o1,K,o3,o4⟩:=dk hk;have hv:=hg.size;have f8:=hg;obtain ⟨cs,nn,tk,ss,ps,lv,f,rfl,hs⟩:=hg;have e5:T.length=yP m:=by have:=congrArg List.length b2;rwa [vb,eO] at this
 have en:=hn.len;have c4:=hl.len;rw [vb,xZ] at c4;refine qe5 ?_;unfold Uc;refine (St.start F).newG λb3 G1 F1 l1 q3 _ h=>h.newG λb4 G2 F2 l2 q4 _ h=>h.new λU F3 h=> ?_;have J:=aa l1 l2;refine ⟨_,hv,ai (h.le _ _ (l2 _ _ q3)),hv,?_⟩;have h:=(((h.push (A:=own pk 3 1 []) (H:=λ_=>nC) (.inl ⟨rfl,rfl⟩) (λb E=>absurd rfl E) (λb o E=>by cases E) (au _)).push (A:=own pk 140 5 (uX [])) (H:=λ_=>nC) (.inl ⟨rfl,rfl⟩) (λb E=>absurd rfl E) (λb o E=>by cases E) (au _)).push (A:=own pk 140 5 []) (H:=λ_=>nC) (.inl ⟨rfl,rfl⟩) (λb E=>absurd rfl E) (λb o E=>by cases E) (au _));refine h.new λD F4 h=> ?_;generalize hw:(⟨g,cs,nn,tk,ss,ps,lv,f⟩:Spw)=w;have c8:wr (#[tU nC 0 0,.slice nC 0 0,vi 0,.slice nC 0 0,.slice nC 0 0,.slice nC 0 0,vi 0,.slice nC 0 0,.slice nC 0 0,.string ⟨#[]⟩,tU nC 0 0,.slice nC 0 0,vi 0,vi 0]:Γ) 0 (g.arr cs nn tk ss ps lv f).toList=w.arr .empty pk pk 0 0:=by rw [<- hw];exact Tt
 rw [c8] at h;have a3:GS F w.g w.cs w.n w.tk w.s w.p w.lv w.f:=by rw [<- hw];exact hs
 have a2:w.g.qa2.length<=256:=by rw [<- hw];exact o3
 have b1:wx w.g (wP c) s m:=by rw [<- hw];exact d3
 have c7:G2 b3=mB (mX w.gv 39):=by rw [<- hw];exact l2 _ _ q3
 clear hw;refine ib (λN3 x v F=>AO N3 l b3 b4 U D _ x v F) T.length (λi o P=>ZI G2 U D w T i o P) pk ⟨G2,.empty,pk,pk,[],[],[],[],au _,WdI.nil _,yM _,yM _,rfl,.nil,h⟩ ?_;rintro i o F5 N3 hi hI next;unfold AO;have c3:=hI;obtain ⟨G3,tx,wl,rl,ws,vs,rv,is,l3,I,f9,f3,a7,hr,h⟩:=hI;have a5:=aa J l3;refine ⟨n,ld (h.le _ _ (l3 _ _ q4)) rfl,λR=> ?_,λe8=> ?_⟩
 ·have R:i<T.length:=by omega
  have hx:T[i]? =mB T[i]:=N5 R;generalize T[i]=x at hx;have O:=a8 x (wh hx);have V:=lD hx;refine ⟨n,ld (h.le _ _ (l3 _ _ q4)) rfl,?_⟩;refine u9 (hn.le a5) (by decide) (by omega) (by omega) λe9 cc x' a1 a9 hc=>⟨cc,Mem.len hc,aO h.le a9,?_⟩;rw [N4,hx] at a1;cases a1;obtain ⟨r,rfl,b9⟩:=id hc;refine h.var (Mem.st hc) (λe4 G4 F6 Y M h=> ?_) rfl rfl;have j7:∀{P:PH} {o':Sl},ZI G2 U D w T (i+1) o' P->nA N3 l b3 b4 U D i o' (Y3 F T m) P:=λ{P o'} hI=>by unfold nA;rw [aD R];exact next _ _ R hI
  refine ⟨x.pr,ld (h.le _ _ M) rfl,λe0=> ?_,λe1=> ?_⟩
  ·refine j7 ⟨G4,tx,wl,rl,ws,vs,rv,is,aa l3 Y,?_,by omega,by omega,a7,hr.le Y,h⟩;rw [V,Υ (by omega),yD];exact I
  ·rw [Χ (by omega)] at V;refine ⟨r,ld (h.le _ _ M) (i:=3) rfl,?_⟩;have d1:=aa a5 Y;refine (kj ((a3.le d1).t) a2 (b9.le Y) O.rs O.rl (by omega) (by omega) h).mono ?_;rintro _ F7 ⟨rfl,G5,y,B,X,l5,hy,d4,h⟩;have c2:(tx++y).size=tx.size+y.size:=ByteArray.size_append;have I:=I.grow y;generalize tx++y=Z at I h c2;have e7:=O.tl;refine ⟨rfl,wl,h.ld0 (i:=10) rfl,x.tx,ld (h.le _ _ (l5 _ _ M)) (i:=2) rfl,x.tk,ld (h.le _ _ (l5 _ _ M)) (i:=1) rfl,?_⟩;refine (qM h (by omega)).mono ?_;rintro _ F8 ⟨G6,c6,rfl,Q,l6,h⟩;obtain ⟨_,_,TV⟩:=Ts;have a6:=aa l5 l6;have b8:=hr.le (aa Y a6);have f4:=GN b8 h (i:=2) rfl;have e2:ws.length<=i:=by have h1:=I.len;have h2:(lvs (T.take i)).length<=(T.take i).length:=List.length_filterMap_le _ _;have:=List.length_take_le i T;omega
   refine ⟨c6,rfl,h.ld0 (i:=10) rfl,Mem.len Q,?_⟩;refine h.push2 TV (c:=c6) (Mem.len Q) (Mem.st Q) (by omega) λC G7 F9 l7 h _=> ?_;refine h.set0 (w':=w.arr (Z++x.tx) C B 0 0) (vp rfl) rfl λf5 h=> ?_;have e3:=(h.ownAt (i:=3) rfl).1.rd.len;refine h.push3 tq (c:= #[vi (i:Int)]) rfl (by simp [ak]) (by omega) λK G8 a0 l8 h f1=> ?_;have c5:bT G8 (ws++[(Z.size,Z.size+x.tx.size)]) (vs++[c6]):=(b8.le (aa l7 l8)).append (.cons (Mem.le (aa l7 l8) Q) .nil);have L:=I.add (O.tp (by omega));rw [<- V] at L;have d2:(Z++x.tx).size=Z.size+x.tx.size:=ByteArray.size_append;generalize Z++x.tx=W at L h d2;have a4:=aa l3 (aa Y (aa a6 (aa l7 l8)));have h:St G8 a0 (SB D w W C B 0 0 [own B 140 5 X,own C 140 5 (uX (vs++[c6])),own K 3 1 (is++[vi (i:Int)]),pt U (mX #[tU nC 0 0,.slice nC 0 0,vi 0,vi 0] 89)]):=by rw [be,cG];exact h
   have fin:∀{P:PH} (q:ο),q.size=1->St G8 P (SB D w (W++q) C B 0 0 [own B 140 5 X,own C 140 5 (uX (vs++[c6])),own K 3 1 (is++[vi (i:Int)]),pt U (mX #[tU nC 0 0,.slice nC 0 0,vi 0,vi 0] 89)])->nA N3 l b3 b4 U D i K (Y3 F T m) P:=λ{P} q hq h=>by
    refine j7 ⟨G8,W++q,C,B,_,_,X,_,a4,L.grow q,?_,by omega,?_,c5,h⟩
    ·rw [ByteArray.size_append];omega
    ·rw [tT,tT,a7];rfl
   have j8:∀bb:Bool,vx N3 l b3 b4 U D K i bb (Y3 F T m) a0:=λbb=>by
    unfold vx;refine ⟨λ_=>⟨W,h.ld0 (i:=9) rfl,by show _+1<=_;omega,?_⟩,λ_=>⟨W,h.ld0 (i:=9) rfl,by show _+1<=_;omega,?_⟩⟩
    ·exact h.set0 (w':=w.arr (W++ByteArray.mk #[10]) C B 0 0) (vp rfl) rfl λc9 h=>fin _ rfl h
    ·exact h.set0 (w':=w.arr (W++ByteArray.mk #[32]) C B 0 0) (vp rfl) rfl λc9 h=>fin _ rfl h
   refine ⟨λe6=> ?_,λ_=>j8 _⟩;have f6:1<=K.len:=by omega
   rw [aL (by omega)];have b5:K.len - 1<N.length:=by omega
   obtain ⟨b0,o0,E,_⟩:=hl.cells (by omega);have b6:=(hl.le (aa J (aa a4 h.le))).cell E (i:=K.len - 1) (by rw [vb];exact b5);rw [Yy] at b6;refine ⟨_,E,by omega,by omega,((N[K.len - 1]:Nat):Int),?_,j8 _⟩;rw [show pc ((K.len:Int) - 1)=K.len - 1 by omega,xZ];exact b6
 ·have:i=T.length:=by omega
  subst this;exact Ai J (a3.le J) a2 c7 q4 (hn.le J) (ht.le J) b2 b1 d0 a8 t3 t4 c3
end
variable {R:VR} {F:PH}
set_option maxHeartbeats 4000000
def GO (R:VR) (F:PH):Prop:=R (oY nZ) F
def GP (i:Ω) (c h:Sl) (R:VR) (a:Int) (F:PH):Prop:=Bc (a<(c.len:Int)) (Ix c a λd=>Lr F 2 (od d (pc a*2)) λe=>Ix h a λf=>Lr F 2 (od f (pc a*2)) λg=>∃b,(∀F,s9 prog (Op.equal 80 (oc e) (oc g)) F b)/\Bb ((!b)) (R (oY nS) F) (i (i64.wrap (a+1)) F)) (GO R F)
def Tu (a b:Sl) (R:VR) (F:PH):Prop:=Bc ((a.len:Int)≠(b.len:Int)) (R (oY nS) F) (Lp 0 F λN c F=>GP N a b R c F)
theorem qfU {a:Sl} {b:Sl} (h:Tu a b R F):ν 17 #[nV a,nV b] F R:=Rx.Λ (.qa8 (.qa8 (.J nS [] (.qa8 (.L [(5,.int .i64)] .N)) .N))) h
variable {R:VR} {F:PH}
set_option maxHeartbeats 4000000
def ZZ (q:Γ) (b:Int) (R:VR) (F:PH):Prop:=Nb F (mX q 28) λE F=>vc 9 #[] F λi F=>Lr F 8 (Am E 0) λr=>ν 10 #[oc r] F λv F=>∃k,∃c,∃d,∃a,∃e,v=(sj #[oc k,tJ .u64 c,pg d,nV a,oY e])/\Nb F (mX zG 39) λs F=>aB F (Am s 0) 9 k λF=>Bb ((!e)) (R (oY i) F) ((a.len:Int)≠0/\Ix a (tK (i64.wrap b) (a.len:Int)) λt=>∃l,F.cell (od t (pc (tK (i64.wrap b) (a.len:Int))*4))=mB (vi l)/\Bc (l<0) (R (oY i) F) (Lr F 9 (Am s 0) λu=>ν 26 #[oc u,nV a,(vi (tK (i64.wrap b) (a.len:Int)))] F λv F=>∃m,∃f,v=(sj #[nV m,(vi f)])/\Lr F 9 (Am s 0) λw=>Nb F (mX zG 39) λp F=>aB F (Am p 0) 9 w λF=>Ls F (Am s 5) λx=>Ix a (tK (i64.wrap b) (a.len:Int)) λy=>∃j,F.cell (od y (pc (tK (i64.wrap b) (a.len:Int))*4))=mB (vi j)/\Ix x j λz=>Li F (od (od z (pc j*13)) 1) λA=>rj F (Am p 6) (vi A) λF=>Lr F 9 (Am s 0) λB=>ν 11 #[oc B,tJ .u64 c,pg d,nV a,(vi (tK (i64.wrap b) (a.len:Int)))] F λv F=>∃n,∃g,v=(sj #[nV n,(vi g)])/\Lr F 9 (Am p 0) λC=>ν 11 #[oc C,tJ .u64 c,pg d,nV m,(vi 0)] F λv F=>∃o,∃h,v=(sj #[nV o,(vi h)])/\Bb (i) (Bc (f=0) (Bc (g=0) (Bc (h=0) (vc 17 #[nV n,nV o] F λD F=>R (oY D) F) (R (oY nS) F)) (R (oY nS) F)) (R (oY nS) F)) (R (oY nS) F)))
theorem cQ8 {a:Γ} {b:Int} (h:ZZ a b R F):ν 8 #[oc a,tJ .u16 b] F R:=Rx.Λ .N h
def CJ (z:Nat) (a:ο) (h:Sl) (i:ο) (o:Sl) (R:VR) (F:PH):Prop:=Lr F 9 (Am z 0) λA=>ν 11 #[oc A,tJ .u64 0,.string a,nV h,(vi 0)] F λv F=>∃l,∃d,v=(sj #[nV l,(vi d)])/\Lr F 9 (Am z 0) λB=>ν 15 #[oc B,tJ .u64 0,.string a,nV h] F λv F=>∃m,∃e,v=(sj #[nV m,(vi e)])/\Lr F 9 (Am z 0) λC=>ν 15 #[oc C,tJ .u64 0,.string i,nV o] F λv F=>∃b,∃f,v=(sj #[nV b,(vi f)])/\Bc ((b.len:Int)≠1) (R (oY nS) F) (Lr F 9 (Am z 0) λD=>ν 13 #[oc D,tJ .u64 0,.string a,nV h,(vi (i64.wrap ((h.len:Int) - 1)))] F λv F=>∃n,∃g,v=(sj #[nV n,(vi g)])/\(#[pg ⟨#[97]⟩,(vi 1)]:Γ).size=2/\(#[pg ⟨#[98]⟩,(vi 2)]:Γ).size=2/\Nb F (mX (wr (wr (#[pg ⟨#[]⟩,vi 0,.string ⟨#[]⟩,vi 0]:Γ) 0 (#[pg ⟨#[97]⟩,(vi 1)]:Γ).toList) 2 (#[pg ⟨#[98]⟩,(vi 2)]:Γ).toList) 80) λk F=>Bc (d=0) (vc 17 #[nV l,nV (Sb k 2)] F λE F=>Bb (E) (Bc (e=0) (Bc ((m.len:Int)=0) (Bc (f=0) (Ix b 0 λG=>Li F (od G (pc 0*3)) λH=>Bc (H=6) (Ix b 0 λp=>∃j,F.cell (od (od p (pc 0*3)) 2)=mB (vi j)/\Bc (j=0) (Ix b 0 λq=>∃c,F.cell (od (od q (pc 0*3)) 1)=mB (vi c)/\Ix o c λr=>Li F (od r (pc c*4)) λs=>Bc (s=3) (Bc (g=0) (0<=1/\1<=(Sb k 2).cap/\vc 17 #[nV n,nV (xy (Sb k 2) 2 0 1 (Sb k 2).cap)] F λt F=>Bb (t) (Lr F 9 (Am z 0) λu=>vc 19 #[oc u,tJ .u64 0,.string a,nV h] F λw F=>Bb (w) (Lr F 9 (Am z 0) λx=>vc 19 #[oc x,tJ .u64 0,.string i,nV o] F λy F=>R (oY (!y)) F) (R (oY nS) F)) (R (oY nS) F)) (R (oY nS) F)) (R (oY nS) F)) (R (oY nS) F)) (R (oY nS) F)) (R (oY nS) F)) (R (oY nS) F)) (R (oY nS) F)) (R (oY nS) F)) (R (oY nS) F))
def Tv (b3:Nat) (w n:Γ) (K:ο->Sl->Ψ) (F:PH):Prop:=
 ν 28 #[(oc w),(oc n),(nV pk)] F λv F=>∃a,∃p,∃t,v=(sj #[(pg a),(oc p),(nV t)])/\aB F (Am b3 0) 4 p λF=>K a t F
def Tw (b1 b3:Nat) (w:Γ) (z:Nat) (K:ο->Sl->Ψ) (F:PH):Prop:=
 Ca 29 #[(nV (Sb z 2))] F λn F=>F.row (Am b1 0) w/\Tv b3 w n K F
def GQ (b1 b3:Nat) (w:Γ) (x y:Nat) (K:ο->Sl->Ψ) (F:PH):Prop:=
 Nb F (mX #[(nV (Sb x 2)),(nV (Sb y 3))] 30) λz F=>Tw b1 b3 w z K F
def qfd (b1:Nat) (w:Γ) (z:Nat) (K:ο->Sl->Ψ) (F:PH):Prop:=
 ((Ca 29 #[(nV (Sb z 2))] F λn F=>F.row (Am b1 0) w/\((ν 28 #[(oc w),(oc n),(nV pk)] F λv F=>∃a,∃p,∃t,v=(sj #[(pg a),(oc p),(nV t)])/\Nb F (mX (#[tU nC 0 0,.slice nC 0 0,vi 0,vi 0]) 89) λb3 F=>aB F (Am b3 0) 4 p λF=>K a t F)/\(Nb F (mX (#[tU nC 0 0,.slice nC 0 0,vi 0,vi 0]) 89) λb3 F=>Tv b3 w n K F)))/\(Nb F (mX (#[tU nC 0 0,.slice nC 0 0,vi 0,vi 0]) 89) λb3 F=>Tw b1 b3 w z K F))
def Tx (b1:Nat) (w:Γ) (x y:Nat) (K:ο->Sl->Ψ) (F:PH):Prop:=
 ((Nb F (mX #[(nV (Sb x 2)),(nV (Sb y 3))] 30) λz F=>qfd b1 w z K F)/\(Nb F (mX (#[tU nC 0 0,.slice nC 0 0,vi 0,vi 0]) 89) λb3 F=>GQ b1 b3 w x y K F))
def Ty (b1:Nat) (w c:Γ) (K:ο->Sl->Ψ) (F:PH):Prop:=
 ((Nb F (mX c 9) λx F=>((Nb F (mX #[(pg ⟨#[112,111,105,110,116,101,114]⟩),(pg ⟨#[97]⟩),(pg ⟨#[98]⟩)] 9) λy F=>Tx b1 w x y K F)/\(Nb F (mX (#[tU nC 0 0,.slice nC 0 0,vi 0,vi 0]) 89) λb3 F=>Nb F (mX #[(pg ⟨#[112,111,105,110,116,101,114]⟩),(pg ⟨#[97]⟩),(pg ⟨#[98]⟩)] 9) λy F=>GQ b1 b3 w x y K F)))/\(Nb F (mX #[(pg ⟨#[112,111,105,110,116,101,114]⟩),(pg ⟨#[97]⟩),(pg ⟨#[98]⟩)] 9) λy F=>((Nb F (mX c 9) λx F=>Tx b1 w x y K F)/\(Nb F (mX (#[tU nC 0 0,.slice nC 0 0,vi 0,vi 0]) 89) λb3 F=>Nb F (mX c 9) λx F=>GQ b1 b3 w x y K F)))/\(Nb F (mX (#[tU nC 0 0,.slice nC 0 0,vi 0,vi 0]) 89) λb3 F=>((Nb F (mX c 9) λx F=>Nb F (mX #[(pg ⟨#[112,111,105,110,116,101,114]⟩),(pg ⟨#[97]⟩),(pg ⟨#[98]⟩)] 9) λy F=>GQ b1 b3 w x y K F)/\(Nb F (mX #[(pg ⟨#[112,111,105,110,116,101,114]⟩),(pg ⟨#[97]⟩),(pg ⟨#[98]⟩)] 9) λy F=>Nb F (mX c 9) λx F=>GQ b1 b3 w x y K F))))
def CL (d:Nat) (b:ο) (e:Sl) (R:VR) (F:PH):Prop:=Lr F 9 (Am d 0) λc=>Ty d c #[pg ⟨#[40]⟩,pg ⟨#[97]⟩] (λa t F=>CJ d b e a t R F) F
def Z0 (R:VR) (F:PH):Prop:=Ca 27 #[] F λb F=>Nb F (mX zG 39) λd F=>aB F (Am d 0) 9 b λF=>Lr F 9 (Am d 0) λc=>Ty d c #[pg ⟨#[116,121,112,101]⟩,pg ⟨#[97]⟩] (λa t F=>CL d a t R F) F
theorem cQ9 (h:Z0 R F):ν 9 #[] F R:=Rx.Λ (.qa8 (.qa8 (.J nS [(2,.str),(4,.sl)] .N (.J nS [(5,.str),(7,.sl)] .N .N)))) h
def uZ (s p:Nat) (R:VR) (F:PH):Prop:=Lr F 8 (Am s 0) λj=>ν 30 #[oc j] F λv F=>∃h,∃a,∃b,∃c,v=(sj #[oc h,tJ .u64 a,oc b,oY c])/\Nb F (mX zG 39) λq F=>Nb F (mX (#[tU nC 0 0,.slice nC 0 0]) 94) λt F=>aB F (Am q 0) 9 h λF=>aB F (Am t 0) 2 b λF=>Bb ((!c)) (Lr F 9 (Am q 0) λk=>aB F (Am p 0) 9 k λF=>Lr F 9 (Am p 0) λg=>R (sj #[oc g,tJ .u64 a,pg ⟨#[]⟩,nV pk,oY nS]) F) (Lr F 9 (Am q 0) λl=>Lr F 2 (Am t 0) λm=>Ls F (Am s 7) λn=>ν 28 #[oc l,oc m,nV n] F λv F=>∃i,∃d,∃e,v=(sj #[pg i,oc d,nV e])/\Nb F (mX (#[tU nC 0 0,.slice nC 0 0,vi 0,vi 0]) 89) λr F=>aB F (Am r 0) 4 d λF=>Lr F 9 (Am q 0) λo=>aB F (Am p 0) 9 o λF=>Lr F 9 (Am p 0) λf=>R (sj #[oc f,tJ .u64 a,pg i,nV e,oY nZ]) F)
def Tz (a:Γ) (R:VR) (F:PH):Prop:=Nb F (mX a 28) λc F=>Nb F (mX zG 39) λd F=>Lk F .u8 (Am c 0) λb=>Bc ((tK b 8)≠7) (rj F (Am c 0) (tJ .u8 2) λF=>uZ c d R F) (uZ c d R F)
theorem qfe {a:Γ} (h:Tz a R F):ν 10 #[oc a] F R:=Rx.Λ (.qa8 (.J nS [] .N .N)) h
def GR (b c:Nat) (R:VR) (F:PH):Prop:=Lr F 2 (Am c 0) λa=>aB F (Am b 0) 2 a λF=>Rr 2 (Am b 0) R F
def qN (b:Ω) (_:Sl) (_ _:Nat) (a:Int) (_:VR) (F:PH):Prop:=b (i64.wrap (a+1)) F
def Aj (W:Ω) (h:Sl) (V c:Nat) (R:VR) (a:Int) (F:PH):Prop:=Bc (a<(h.len:Int)) (Ix h a λG=>Ls F (od G (pc a*1)) λH=>Ix H 0 λI=>Lx F (od I (pc 0*1)) λJ=>Ci 61 #[pg J] F λn F=>Ls F (Am c 0) λK=>(#[(vi n),(vi (-1:Int)),pg ⟨#[]⟩,tU nC 0 0]:Γ).size=4/\Nb F (mX (#[(vi n),(vi (-1:Int)),pg ⟨#[]⟩,tU nC 0 0]:Γ) 137) λX F=>Ap 92 #[nV K,nV (Sb X 1)] F λL F=>rj F (Am c 0) (nV L) λF=>Bc (n=2) (Ls F (Am c 0) λo=>Ix h a λi=>Ls F (od i (pc a*1)) λj=>Ix j 1 λs=>Lx F (od s (pc 1*1)) λt=>Ca 62 #[(vi 1),pg ⟨#[43]⟩] F λu F=>F.cell (od s (pc 1*1))=mB (pg t)/\F.cell (od i (pc a*1))=mB (nV j)/\F.cell (Am c 0)=mB (nV o)/\Ca 62 #[(vi 0),pg t] F λv F=>F.cell (od i (pc a*1))=mB (nV j)/\F.cell (Am c 0)=mB (nV o)/\Ca 62 #[(vi 7),pg ⟨#[59]⟩] F λw F=>F.cell (od i (pc a*1))=mB (nV j)/\F.cell (Am c 0)=mB (nV o)/\u.size=4/\v.size=4/\w.size=4/\Nb F (mX (wr (wr (wr (#[vi 0,vi 0,.string ⟨#[]⟩,tU nC 0 0,vi 0,vi 0,.string ⟨#[]⟩,tU nC 0 0,vi 0,vi 0,.string ⟨#[]⟩,tU nC 0 0]:Γ) 0 u.toList) 4 v.toList) 8 w.toList) 137) λY F=>Ap 92 #[nV o,nV (Sb Y 3)] F λM F=>F.cell (od i (pc a*1))=mB (nV j)/\rj F (Am c 0) (nV M) λF=>qN W h V c a R F) (Bc (n=3) (Ls F (Am c 0) λk=>Ix h a λe=>Ls F (od e (pc a*1)) λf=>Ix f 1 λN=>Lx F (od N (pc 1*1)) λO=>Ix h a λg=>Ls F (od g (pc a*1)) λb=>Ix b 2 λl=>Lx F (od l (pc 2*1)) λm=>Ca 62 #[(vi 0),pg O] F λx F=>F.cell (od l (pc 2*1))=mB (pg m)/\F.cell (od g (pc a*1))=mB (nV b)/\F.cell (od e (pc a*1))=mB (nV f)/\F.cell (Am c 0)=mB (nV k)/\Ca 62 #[(vi 2),pg ⟨#[42]⟩] F λy F=>F.cell (od l (pc 2*1))=mB (pg m)/\F.cell (od g (pc a*1))=mB (nV b)/\F.cell (od e (pc a*1))=mB (nV f)/\F.cell (Am c 0)=mB (nV k)/\Ca 62 #[(vi 0),pg m] F λp F=>F.cell (od g (pc a*1))=mB (nV b)/\F.cell (od e (pc a*1))=mB (nV f)/\F.cell (Am c 0)=mB (nV k)/\Ca 62 #[(vi 7),pg ⟨#[59]⟩] F λq F=>F.cell (od g (pc a*1))=mB (nV b)/\F.cell (od e (pc a*1))=mB (nV f)/\F.cell (Am c 0)=mB (nV k)/\x.size=4/\y.size=4/\p.size=4/\q.size=4/\Nb F (mX (wr (wr (wr (wr (#[vi 0,vi 0,.string ⟨#[]⟩,tU nC 0 0,vi 0,vi 0,.string ⟨#[]⟩,tU nC 0 0,vi 0,vi 0,.string ⟨#[]⟩,tU nC 0 0,vi 0,vi 0,.string ⟨#[]⟩,tU nC 0 0]:Γ) 0 x.toList) 4 y.toList) 8 p.toList) 12 q.toList) 137) λP F=>Ap 92 #[nV k,nV (Sb P 4)] F λE F=>F.cell (od g (pc a*1))=mB (nV b)/\F.cell (od e (pc a*1))=mB (nV f)/\rj F (Am c 0) (nV E) λF=>qN W h V c a R F) (Ls F (Am c 0) λz=>Ca 62 #[(vi 3),pg ⟨#[40]⟩] F λA F=>F.cell (Am c 0)=mB (nV z)/\A.size=4/\Nb F (mX A 137) λZ F=>Ap 92 #[nV z,nV (Sb Z 1)] F λQ F=>rj F (Am c 0) (nV Q) λF=>Ls F (Am c 0) λB=>Ix h a λr=>Ls F (od r (pc a*1)) λd=>1<=d.len/\d.len<=d.cap/\Cs 63 #[nV (xy d 1 1 d.len d.cap)] F λS F=>F.cell (od r (pc a*1))=mB (nV d)/\F.cell (Am c 0)=mB (nV B)/\Ap 92 #[nV B,nV S] F λT F=>F.cell (od r (pc a*1))=mB (nV d)/\rj F (Am c 0) (nV T) λF=>Ls F (Am c 0) λC=>Ca 62 #[(vi 4),pg ⟨#[41]⟩] F λD F=>F.cell (Am c 0)=mB (nV C)/\D.size=4/\Nb F (mX D 137) λaa F=>Ap 92 #[nV C,nV (Sb aa 1)] F λU F=>rj F (Am c 0) (nV U) λF=>qN W h V c a R F))) (GR V c R F)
def GT (c:Sl) (g d:Nat) (R:VR) (F:PH):Prop:=Ls F (Am d 0) λa=>(#[(vi 0),(vi (-1:Int)),pg ⟨#[]⟩,tU nC 0 0]:Γ).size=4/\Nb F (mX (#[(vi 0),(vi (-1:Int)),pg ⟨#[]⟩,tU nC 0 0]:Γ) 137) λe F=>Ap 92 #[nV a,nV (Sb e 1)] F λb F=>rj F (Am d 0) (nV b) λF=>Lp 0 F λN f F=>Aj N c g d R f F
def Ak (g:Ω) (a:Sl) (h e:Nat) (R:VR) (b:Int) (F:PH):Prop:=Bc (b<(a.len:Int)) (Ls F (Am e 0) λc=>(#[(vi 1),(vi (-1:Int)),pg ⟨#[]⟩,tU nC 0 0]:Γ).size=4/\Nb F (mX (#[(vi 1),(vi (-1:Int)),pg ⟨#[]⟩,tU nC 0 0]:Γ) 137) λf F=>Ap 92 #[nV c,nV (Sb f 1)] F λd F=>rj F (Am e 0) (nV d) λF=>g (i64.wrap (b+1)) F) (GT a h e R F)
def TA (a:Sl) (R:VR) (F:PH):Prop:=Nb F (mX (#[tU nC 0 0,.slice nC 0 0]) 94) λd F=>Nb F (mX (#[tU nC 0 0,.slice nC 0 0]) 94) λc F=>aB F (Am c 0) 2 (#[tU nC 0 0,.slice nC 0 0]:Γ) λF=>Lp 0 F λN b F=>Ak N a d c R b F
theorem qff {a:Sl} (h:TA a R F):ν 29 #[nV a] F R:=Rx.Λ (.qa8 (.qa8 (.J nS [] (.qa8 (.L [(4,.int .i64)] .N)) (.qa8 (.J nS [] (.qa8 (.L [(5,.int .i64)] (.qa8 (.J nS [] .N .N)))) .N))))) h
def TB (a:ο) (R:VR) (F:PH):Prop:=Bb ((a.toList==(ByteArray.mk #[116,121,112,101]).toList)) (R (vi 2) F) (Bb ((a.toList==(ByteArray.mk #[112,111,105,110,116,101,114]).toList)) (R (vi 3) F) (R (vi 5) F))
theorem qfg {a:ο} (h:TB a R F):ν 61 #[pg a] F R:=Rx.Λ .N h
def TC (a:Int) (b:ο) (R:VR) (F:PH):Prop:=Nb F (mX (#[vi 0,vi 0,.string ⟨#[]⟩,tU nC 0 0]) 137) λc F=>aB F (Am c 0) 4 (#[(vi (-1:Int)),(vi a),pg b,tU nC 0 0]:Γ) λF=>Rr 4 (Am c 0) R F
theorem qfh {a:Int} {b:ο} (h:TC a b R F):ν 62 #[(vi a),pg b] F R:=Rx.Λ .N h
def GU (c:Sl) (R:VR) (F:PH):Prop:=Ca 29 #[nV c] F λb F=>∃a,b[0]? =mB (nV a)/\R (nV a) F
def Al (i:Sl->Ω) (a:Sl) (R:VR) (b:Sl) (c:Int) (F:PH):Prop:=Bc (c<(a.len:Int)) (Ix a c λd=>Lx F (od d (pc c*1)) λe=>Nb F (mX #[pg ⟨#[116,121,112,101]⟩,pg e] 9) λg F=>Nb F (mX #[nV (Sb g 2)] 30) λh F=>Ap 144 #[nV b,nV (Sb h 1)] F λf F=>i f (i64.wrap (c+1)) F) (GU b R F)
def TD (a:Sl) (R:VR) (F:PH):Prop:=(∃(e:Nat->Sl->Ω) (d:Nat),e d pk 0 F/\∀d b c F,e d b c F-> Al (Wf e d) a R b c F)
theorem qfi {a:Sl} (h:TD a R F):ν 63 #[nV a] F R:=Rx.Λ (.qa8 (.qa8 (.J nS [(3,.sl)] (.qa8 (.L [(3,.sl),(4,.int .i64)] .N)) .N))) h
theorem TE (x y:tW) (F:PH):s9 prog (Op.equal 80 (oc (mR x)) (oc (mR y))) F (decide (x=y)):=by
 have h:=te (t:=80) underlying80 (by kernel_rfl) (cs:=mR x) (ds:=mR y) (λf=>if f.offset=0 then decide (x.1=y.1) else decide (x.2=y.2)) (λf g=>by
  simp only [tQ,Ws,or_false] at g;rcases g with rfl|rfl
  ·exact ⟨by decide,_,_,rfl,rfl,.str underlying9⟩
  ·exact ⟨by decide,_,_,rfl,rfl,.int underlying3⟩) F
 refine cast ?_ h;congr 1;cases x;cases y;rw [wR];simp
deriving instance DecidableEq for Vio
theorem QU {F:PH} {B:(Ω)->Ω} (n:Nat) (Inv:Nat->Ψ) (h:Inv 0 F) (step:∀(k:Nat) (F:PH) (N:Ω),k<=n->Inv k F->(∀g,k<n->Inv (k+1) g->N ((k+1:Nat):Int) g)->B N (k:Int) F):Lp (0:Int) F B:=bC B n Inv h step
theorem LC {α:Type} [Mem α] [DecidableEq α] {F:PH} {a b:Sl} {l m:List α} {n t:Nat} (K:RL F a l) (M:RL F b m) (G:0<Mem.n α) (I:Mem.n α=n) (V:l.length<=1000000000) (J:∀(x y:α) c d,Mem.rep F x c->Mem.rep F y d->∀g,s9 prog (Op.equal t (oc c) (oc d)) g (decide (x=y))):
  Bc ((a.len:Int)≠(b.len:Int)) ((λ(r:ξ) (g:PH)=>r=oY (decide (l=m))/\g=F) (oY nS) F) (Lp (0:Int) F λN i g=>Bc (i<(a.len:Int)) (
   Ix a i λx=>Lr g n (od x (pc i*n)) λv=>Ix b i λy=>Lr g n (od y (pc i*n)) λw=>∃e,(∀F,s9 prog (Op.equal t (oc v) (oc w)) F e)/\
   Bb (!e) ((λ(r:ξ) (g:PH)=>r=oY (decide (l=m))/\g=F) (oY nS) g) (N (i64.wrap (i+(1:Int))) g)) ((λ(r:ξ) (g:PH)=>r=oY (decide (l=m))/\g=F) (oY nZ) g)):=by
 subst I;have Q:=K.len G;have Y:=M.len G;refine ⟨λU=>⟨?_,rfl⟩,λW=> ?_⟩
 ·rw [η];intro e;rw [e] at Q;omega
 refine QU l.length (λk g=>g=F/\l.take k=m.take k) ⟨rfl,rfl⟩ ?_;rintro k g N X ⟨rfl,h⟩ next;refine ⟨λB=> ?_,λO=>⟨?_,rfl⟩⟩
 ·have B:k<l.length:=by omega
  refine u9 K G (by omega) (by omega) λx c u C D L=>⟨c,Mem.len L,D,?_⟩;refine u9 M G (by omega) (by omega) λy d z E A hd=>⟨d,Mem.len hd,A,_,J u z c d L hd,λI=>⟨?_,rfl⟩,λH=> ?_⟩
  ·rw [η];intro e;rw [N4] at C E;rw [e,E] at C;cases C;simp at I
  ·have H:u=z:=by simpa using H
   rw [N4] at C E;rw [aD B];exact next _ B ⟨rfl,by rw [bq C,bq E,h,H]⟩
 ·have P:k=l.length:=by omega
  rw [ε];rw [P,wV,yY (by omega)] at h;exact h
section
variable {F:PH} {a b:Sl}
theorem fI {l m:List tW} (h:RL F a l) (B:RL F b m) (w:l.length<=1000000000):ν 17 #[a.v,b.v] F λr g=>r=oY (decide (l=m))/\g=F:=by refine qfU ?_;unfold Tu GP GO;exact LC h B (by decide) rfl w λx y c d A hd g=>by rw [show c=mR x from A,show d=mR y from hd];exact TE x y g
end
section
variable {F G:PH} {x:Rw} {j:Nat} {L N:Δ}
def xW (x:Rw):Rw:=if x.qa5 % 8≠7 then {x with qa5:=2} else x
structure GW (F:PH) (x:Rw) (w:Γ) (c:Nat) (tx:ByteArray) (t:Sl) (T:List Tmn) (tl:List ByteArray) (m:Ttr) (ws:List (Nat×Nat)):Prop where
 gv:GV F w (aT x)
 c8:c<8
 inw:Vg (aT x) (c:Int)=nZ
 tr:wx (aT x) (wP (c:Int)) ⟨nS,0⟩ m
 sz:yP m<=44537
 sp:SpO T m tx ws
 rl:RL F t (vq (zk tx ws m))
 ok:∀y∈T,TmO y
 key:T.map Tmn.key=Vh m
theorem GW.le {w:Γ} {c:Nat} {tx:ο} {t:Sl} {T:List Tmn} {g:List ο} {m:Ttr} {r:List (Nat×Nat)} (h:GW F x w c tx t T g m r) (l:F.le G):GW G x w c tx t T g m r:=⟨h.gv.le l,h.c8,h.inw,h.tr,h.sz,h.sp,h.rl.le l,h.ok,h.key⟩
def QV (F:PH) (x:Rw) (r:ξ) (F':PH):Prop:=∃(w:Γ) (c:Nat),GV F' w (aT x)/\c<8/\((∃(tx:ο) (t:Sl),r=sj #[oc w,tJ .u64 (c:Int),pg tx,t.v,oY nS])\/
 ∃tx t T tl m ws,r=sj #[oc w,tJ .u64 (c:Int),pg tx,nV t,oY nZ]/\GW F' x w c tx t T tl m ws)
theorem CM {b1 b2:Nat} {v:Γ} {F0:PH} (hx:InV G v x j L N) (lF:F0.le G) (h:St G F [pt b2 (mX zG 39),pt b1 (mX v 28)]):uZ b1 b2 (λr I=>QV F0 x r I/\F0.le I) F:=by
 have a0:=hx;obtain ⟨⟨v0,v1,v2,v3,v4,l,n,rfl,hr,hL,hN⟩,hj,a3,a2⟩:=hx;unfold uZ;refine ⟨_,rfl,h.whole1,?_⟩;refine h.run (P:=λr J=>∃(w:Γ) (c:Nat) (A:Γ) (ok:Bool),r=sj #[oc w,tJ .u64 (c:Int),oc A,oY ok]/\GV J w (aT x)/\c<8/\Vg (aT x) (c:Int)=nZ/\((ok=nS/\A= #[Sl.nil.v,Sl.nil.v])\/(ok=nZ/\∃T H m,TmV J (aT x) (c:Int) ⟨nS,0⟩ A T H m))) ((qic a0).mono λr I ⟨w,c,A,ok,h1,h2,U,W,M,Z⟩=>⟨⟨w,c,A,ok,h1,h2,U,W,Z⟩,M⟩) λ_ G1 F1 Q l1 h=> ?_;obtain ⟨w,c,A,ok,rfl,g,c8,hi,ht⟩:=Q;have B:A.size=2/\∀y∈A.toList,ak y:=by
  rcases ht with ⟨_,rfl⟩|⟨_,T,H,m,C⟩
  ·exact ⟨rfl,by simp [ak,nV]⟩
  ·obtain ⟨n,t,rfl,_⟩:=C.ex;exact ⟨rfl,by simp [ak,nV]⟩
 refine ⟨_,_,_,_,rfl,?_⟩;refine h.new λb7 F2 h=>h.new λb9 F3 h=> ?_;refine h.put1 (w':=w) g.size rfl g.st λF4 h=>h.put0 (w':=A) B.1 rfl B.2 λF5 h=> ?_;have D:=aa lF l1;rcases ht with ⟨rfl,_⟩|⟨rfl,T,H,m,C⟩
 ·refine ⟨λ_=> ?_,λhn=>(by cases hn)⟩;refine ⟨w,g.size,h.whole1,h.put2 (w':=w) g.size rfl g.st λF6 h=>⟨w,g.size,h.whole2,⟨w,c,g.le h.le,c8,.inl ⟨_,pk,rfl⟩⟩,aa D h.le⟩⟩
 ·refine ⟨λhn=>(by cases hn),λ_=> ?_⟩;refine ⟨w,g.size,h.whole1,A,B.1,h.whole0,n,h.ld3 (i:=7) rfl,?_⟩;refine h.run (P:=λr J=>∃(E:ο) (p:Γ) (t:Sl) (K:List (Nat×Nat)),r=sj #[pg E,oc p,t.v]/\p.size=4/\(∀x∈p.toList,ak x)/\SpO T m E K/\RL J t (vq (zk E K m))) ((oq g (mO x) C (hN.le l1)).mono λr I ⟨a,b,c,d,h1,h2,U,W,M,Z⟩=>⟨⟨a,b,c,d,h1,h2,U,W,M⟩,Z⟩) λ_ G2 F6 Y O h=> ?_;obtain ⟨E,p,t,K,rfl,hp,V,a1,X⟩:=Y;refine ⟨_,_,_,rfl,?_⟩;refine h.new λa4 F7 h=>h.put0 (w':=p) hp rfl V λF8 h=> ?_;refine ⟨w,g.size,h.whole2,h.put3 (w':=w) g.size rfl g.st λF9 h=>⟨w,g.size,h.whole3,⟨w,c,g.le (aa O h.le),c8,.inr ⟨E,t,T,H,m,K,rfl,?_⟩⟩,aa D (aa O h.le)⟩⟩;exact ⟨g.le (aa O h.le),c8,hi,C.tr,C.sz,a1,X.le h.le,C.ok,C.key⟩
theorem An {v:Γ} (B:InV F v x j L N):ν 10 #[oc v] F λr D=>QV F (xW x) r D/\F.le D:=by
 have A:=B;obtain ⟨⟨v0,v1,X,W,v4,l,n,rfl,⟨⟨H,E,C,e,O,Q,U⟩,hb,V⟩,I,K⟩,J,w,g⟩:=B;simp only [Array.mk.injEq,List.cons.injEq,and_true] at e;obtain ⟨rfl,rfl,rfl,rfl,rfl⟩:=e;refine qfe ?_;unfold Tz;refine (St.start F).new λY Z h=>h.new λb2 F2 h=> ?_;refine ⟨_,h.ld1 (i:=0) rfl,?_⟩;have M:tK (x.qa5:Int) 8=((x.qa5 % 8:Nat):Int):=by rw [Xc (by omega)];rfl
 dsimp only;rw [M];unfold xW;refine ⟨λP=> ?_,λhe=> ?_⟩
 ·rw [Χ (by omega)];refine h.set1 (w':= #[vB 2,vB x.n,H.v,E.v,C.v,tJ .u8 (j:Int),l.v,n.v]) (vp rfl) rfl λF3 h=> ?_;exact CM ⟨⟨_,_,_,_,_,l,n,rfl,⟨⟨H,E,C,rfl,O,Q,U⟩,by show 2<256;decide,V⟩,I,K⟩,J,w,g⟩ (au _) h
 ·rw [Υ (by omega)];exact CM A (au _) h
end
instance memStrs:Mem (List ο) where
 n:=1
 rep F x c:=∃s:Sl,c= #[s.v]/\RL F s x
 len h:=by obtain ⟨s,rfl,_⟩:=h;rfl
 le hl h:=by obtain ⟨s,h1,h2⟩:=h;exact ⟨s,h1,h2.le hl⟩
 st h:=by obtain ⟨s,rfl,_⟩:=h;simp [ak,nV]
abbrev WO (p:Int):Tmn:=⟨p,-1,emp,[]⟩
abbrev Ve (k:Int) (s:ByteArray):Tmn:=⟨-1,k,s,[]⟩
abbrev Vo:ByteArray:=⟨#[116,121,112,101]⟩
abbrev zi:ByteArray:=⟨#[112,111,105,110,116,101,114]⟩
abbrev LD (s:ByteArray):List Tmn:=[WO 2,Ve 1 ⟨#[43]⟩,Ve 0 s,Ve 7 ⟨#[59]⟩]
abbrev Y7 (n:Nat):List Tmn:=List.replicate n (WO 1)++[WO 0]
def tG (names:List ο):List Tmn:=Y7 names.length++names.flatMap LD
def VY (x:List ο):List Tmn:=if x.getD 0 emp=Vo then LD (x.getD 1 emp) else if x.getD 0 emp=zi then [WO 3,Ve 0 (x.getD 1 emp),Ve 2 ⟨#[42]⟩,Ve 0 (x.getD 2 emp),Ve 7 ⟨#[59]⟩] else [WO 5,Ve 3 ⟨#[40]⟩]++tG x.tail++[Ve 4 ⟨#[41]⟩]
def zq (l:List (List ο)):List Tmn:=Y7 l.length++l.flatMap VY
def LF (x:List ο):Prop:=1<=x.length/\(x.getD 0 emp=Vo->2<=x.length)/\(x.getD 0 emp=zi->3<=x.length)
def isO (x:List ο):Prop:=x.getD 0 emp≠Vo/\x.getD 0 emp≠zi
section
variable {F G:PH} {As:List (Ψ)}
theorem Ao (s:ο):ν 61 #[pg s] F λr w=>r=vi (if s=Vo then 2 else if s=zi then 3 else 5)/\F.le w:=by
 refine qfg ?_;unfold TB;rw [vk,vk];refine ⟨λh=>⟨?_,au _⟩,λh=>⟨λg=>⟨?_,au _⟩,λg=>⟨?_,au _⟩⟩⟩
 ·rw [Χ (ζ h)]
 ·rw [Υ (ι h),Χ (ζ g)]
 ·rw [Υ (ι h),Υ (ι g)]
theorem cR (k:Int) (s:ο):ν 62 #[vi k,pg s] F λr g=>r=oc #[vi (-1),vi k,pg s,Sl.nil.v]/\F.le g:=by refine qfh ?_;unfold TC;refine (St.start F).new λb w h=>h.put0 (w':= #[vi (-1),vi k,pg s,Sl.nil.v]) rfl rfl (by simp [ak,nV]) λF2 h=>⟨_,rfl,h.whole0,rfl,h.le⟩
abbrev Vs (x:Tmn):Γ:= #[vi x.pr,vi x.tk,pg x.tx,Sl.nil.v]
abbrev TW (b3:Nat) (o:Sl) (l:List Tmn) (As:List (Ψ)):List (Ψ):=pt b3 (mX #[o.v,Sl.nil.v] 94)::own o 137 4 (uX (l.map Vs))::As
theorem QW {r:Nat} {o:Sl} {l:List Tmn} (h:St G F (TW r o l As)):o.len=l.length:=by
 have g:=(h.ownAt (i:=1) rfl).1.rd.len;have w:(uX (l.map Vs)).length=l.length*4:=by
  clear g h;induction l with
  |nil=>rfl
  |cons x l ih=>rw [xV,cE,tT,ih];show 4+_=(l.length+1)*4;omega
 omega
abbrev TV (b3:Nat) (o o':Sl) (l:List Tmn) (As:List (Ψ)):List (Ψ):=pt b3 (mX #[o.v,Sl.nil.v] 94)::own o' 137 4 (uX (l.map Vs))::As
theorem u0 {g:Nat} {o o':Sl} {l:List Tmn} (h:St G F (TV g o o' l As)) {C:Ψ} (k:∀r,St G r (TW g o' l As)->C r):rj F (pd g 0 nC) o'.v C:=
 St.set0 (w':= #[o'.v,Sl.nil.v]) h (vp rfl) rfl k
theorem u6 {A:Nat} {o x:Sl} {l m:List Tmn} (h:St G F (TW A o l As)) (B:RdS F x 4 (uX (m.map Vs))) (E:l.length+x.len<=1000000) {C:Sl->Ψ} (k:∀r o',St G r (TV A o o' (l++m) As)->C o' r):
  aH prog (Builtin.append_ #[92,92] 92 #[o.v,x.v]) F λv F=>∃w:Sl,v=nV w/\C w F:=by
 obtain ⟨_,_,T⟩:=To;have H:=QW h;refine h.appAt T 1 rfl B (λv g=> ?_) (by omega) λo' r h _=>k r o' ?_
 ·unfold uX at g;obtain ⟨y,D,g⟩:=XX.1 g;obtain ⟨z,_,rfl⟩:=xR.1 D;simp only [tQ,Ws,or_false] at g;rcases g with rfl|rfl|rfl|rfl<;>simp [ak,nV]
 ·rw [<- be,<- yO] at h;exact h
theorem qO {r:Nat} {o:Sl} {l:List Tmn} {y:Tmn} {C:Ψ} (E:l.length<=900000) (h:St G F (TW r o l As)) (k:∀A g o',G.le A->St A g (TW r o' (l++[y]) As)->C g):
  ∀b,F b=nC->wn (F.set b (mX (Vs y) 137)) λF=>aH prog (Builtin.append_ #[92,92] 92 #[o.v,nV (Sb b 1)]) F λv F=>∃w:Sl,v=nV w/\rj F (pd r 0 nC) w.v C:=by
 refine h.newG λb B H D q _ h=> ?_;exact u6 (m:=[y]) h (RdS.new (h.le _ _ q) rfl rfl (tI _)) (by show _+1<=_;omega) λg o' h=>u0 h λg h=>k B g o' D h
def ZY (F:PH) (X:List (List ο)) (r:ξ) (F':PH):Prop:=(∃n,r=oc #[nV n,Sl.nil.v]/\RdS F' n 4 (uX ((zq X).map Vs)))/\F.le F'
def ZU (F:PH) (names:List ο) (r:ξ) (F':PH):Prop:=(∃n,r=nV n/\RdS F' n 4 (uX ((tG names).map Vs)))/\F.le F'
theorem CN (x:List ο):(VY x).length<=10+5*x.length:=by
 unfold VY;have hi:∀l:List ο,(l.flatMap LD).length=4*l.length:=λl=>by
  induction l with
  |nil=>rfl
  |cons y l ih=>rw [VD,tT,ih];show 4+_=4*(l.length+1);omega
 split
 ·show 4<=_;omega
 ·split
  ·show 5<=_;omega
  ·unfold tG;rw [tT,tT,tT,hi,tT,Xn,List.length_tail];show 2+(_+1+_)+1<=_;omega
theorem qP {l:Sl} {X:List (List ο)} (hl:RL F l X) (hX:∀x∈X,LF x) (c7:∀x∈X,x.length<=100) (hn:X.length<=100)
  (e9:(∃x∈X,isO x)->∀{G:PH} {s:Sl} {I:List ο},I.length<=100->RL G s I->ν 63 #[s.v] G (ZU G I)):ν 29 #[l.v] F (ZY F X):=by
 have el:=hl.len;refine qff ?_;unfold TA;refine (St.start F).new λb2 F1 h=> ?_;have h:=h.push (A:=own pk 137 4 (uX (([]:List Tmn).map Vs))) (H:=λ_=>nC) (.inl ⟨rfl,rfl⟩) (λb hb=>absurd rfl hb) (λb o hb=>by cases hb) (au _);refine h.new λb3 F2 h=>h.put0 (w':= #[Sl.nil.v,Sl.nil.v]) rfl rfl (by simp [ak,nV]) λF3 h=> ?_;generalize hZ:([pt b2 (mX #[tU nC 0 0,.slice nC 0 0] 94)]:List (Ψ))=Z at h;refine bC (λN i J=>Ak N l b2 b3 _ i J) X.length (λi J=>∃(w:PH) (o:Sl),F.le w/\St w J (TW b3 o (List.replicate i (WO 1)) Z)) ⟨F,pk,au _,h⟩ ?_;rintro i F4 N hi ⟨G1,o,l1,h⟩ next;unfold Ak;refine ⟨λg=> ?_,λe4=> ?_⟩
 ·have g:i<X.length:=by omega
  refine ⟨o,h.ld0 (i:=0) rfl,rfl,qO (y:=WO 1) (by rw [Xn];omega) h λG2 F5 o2 l2 h=> ?_⟩;rw [aD g];refine next _ g ⟨G2,o2,aa l1 l2,?_⟩;rw [List.replicate_succ'];exact h
 have:i=X.length:=by omega
 subst this;unfold GT;refine ⟨o,h.ld0 (i:=0) rfl,rfl,qO (y:=WO 0) (by rw [Xn];omega) h λG2 F5 o2 l2 h=> ?_⟩;refine bC (λN i J=>Aj N l b2 b3 _ i J) X.length (λi J=>∃(w:PH) (o:Sl),G1.le w/\St w J (TW b3 o (Y7 X.length++(X.take i).flatMap VY) Z)) ⟨G2,o2,l2,by rw [Va,List.flatMap_nil,yD];exact h⟩ ?_;clear h l2 next;rintro i F6 N1 hi ⟨G3,o3,l3,h⟩ next;have lG:=aa l1 l3;have f6:=hl.le lG;unfold Aj;refine ⟨λg=> ?_,λe4=> ?_⟩
 ·have g:i<X.length:=by omega
  have hx:X[i]? =mB X[i]:=N5 g;have Y:=hX _ (Vw g);have f8:=c7 _ (Vw g);have b1:=Vw g;generalize X[i]=x at hx Y f8 b1;have g1:∀l m:List Tmn,l.length<=200000->m.length<=1000->(l++m).length<=300000:=λl m h1 h2=>by rw [tT];omega
  have hT:(Y7 X.length++(X.take i).flatMap VY).length<=100000:=by
   have h1:∀l:List (List ο),(∀y∈l,y.length<=100)->(l.flatMap VY).length<=600*l.length:=λl=>by
    induction l with
    |nil=>intro _;exact yM _
    |cons y l ih=>intro hy;have a:=ih λz hz=>hy z (by simp [hz]);have b:=CN y;have c:=hy y (by simp);rw [VD,tT,wo];omega
   have h2:=h1 (X.take i) λy hy=>c7 y (YT hy);rw [tT,tT,Xn];show X.length+1+_<=_;have:=List.length_take_le i X;omega
  have a6:(X.take (i+1)).flatMap VY=(X.take i).flatMap VY++VY x:=by rw [bq hx,XV,List.flatMap_singleton]
  have f3:=CN x;generalize hW:Y7 X.length++(X.take i).flatMap VY=W at*;have j3:∀{w J:PH} {o':Sl},G3.le w->St w J (TW b3 o' (W++VY x) Z)->qN N1 l b2 b3 i (ZY F X) J:=λ{w J o'} l' h=>by unfold qN;rw [aD g];refine next _ g ⟨w,o',aa l3 l',?_⟩;rw [a6,<- yb,hW];exact h
  have V:∀{w J:PH} {C:Addr->Prop},G3.le w->w.le J->(∀a s,RL w s x->(∀D,w.le D->D.cell (a.add (pc (i:Int)*1))=mB (nV s))->C a)->Ix l (i:Int) C:=λ{w J C} l' g8 k=>by refine u9 (f6.le l') (by decide) (by omega) (by omega) λa c y hy a1 hc=> ?_;rw [N4,hx] at hy;cases hy;obtain ⟨s,rfl,hs⟩:=hc;exact k a s hs λD l=>aF (aO l a1) rfl
  have a5:∀{w:PH} {s:Sl} {q:Nat} {C:Addr->Prop},RL w s x->q<x.length->(∀a,(∀D,w.le D->D.cell (a.add (pc (q:Int)*1))=mB (pg (x.getD q emp)))->C a)->Ix s (q:Int) C:=λ{w s q C} hs hq k=>by have es:=hs.len;refine u9 hs (by decide) (by omega) (by omega) λa c y hy a1 hc=>k a λD l=> ?_;rw [N4] at hy;obtain rfl:c= #[pg y]:=hc;rw [Vb,hy];exact aF (aO l a1) rfl
  refine V (au _) h.le λh8 f9 c4 f1=>⟨f9,f1 _ h.le,a5 (q:=0) c4 (by have:=Y.1;omega) λh4 d4=>⟨_,d4 _ h.le,?_⟩⟩;refine h.runv (Ao _) λG4 F7 l4 h=>⟨_,rfl,o3,h.ld0 (i:=0) rfl,rfl,?_⟩;generalize B:(if x.getD 0 emp=Vo then (2:Int) else if x.getD 0 emp=zi then 3 else 5)=kk;refine qO (y:=WO kk) (by omega) h λG5 F8 o5 l5 h=> ?_;have L:=aa l4 l5;refine ⟨λh2=> ?_,λh2=>⟨λh3=> ?_,λh3=> ?_⟩⟩
  ·
   have U:x.getD 0 emp=Vo:=by refine Classical.byContradiction λhn=> ?_;rw [Υ hn] at B;split at B<;>omega
   have Q:VY x=LD (x.getD 1 emp):=by unfold VY;rw [Χ U]
   have d3:=Y.2.1 U;refine ⟨o5,h.ld0 (i:=0) rfl,V L h.le λh5 e3 c6 a4=>⟨e3,a4 _ h.le,a5 (q:=1) c6 (by omega) λh6 b7=>⟨_,b7 _ h.le,?_⟩⟩⟩;refine h.runv (cR _ _) λG6 F9 E h=>⟨_,rfl,b7 _ (aa E h.le),a4 _ (aa E h.le),h.ld0 (i:=0) rfl,?_⟩;refine h.runv (cR _ _) λG7 d0 l7 h=>⟨_,rfl,a4 _ (aa E (aa l7 h.le)),h.ld0 (i:=0) rfl,?_⟩;refine h.runv (cR _ _) λG8 b4 l8 h=>⟨_,rfl,a4 _ (aa E (aa l7 (aa l8 h.le))),h.ld0 (i:=0) rfl,rfl,rfl,rfl,?_⟩;refine h.newG λg9 G9 c3 l9 e5 _ h=> ?_;have b0:=aa E (aa l7 (aa l8 l9));refine u6 (m:=[Ve 1 ⟨#[43]⟩,Ve 0 (x.getD 1 emp),Ve 7 ⟨#[59]⟩]) h (RdS.new (h.le _ _ e5) (by kernel_rfl) rfl (tI _)) (by rw [tT];show _+1+3<=_;omega) λd1 o6 h=>⟨a4 _ (aa b0 h.le),u0 h λc5 h=> ?_⟩;refine j3 (aa L b0) (o':=o6) ?_;rw [Q];rw [h2,yb] at h;exact h
  ·
   have U:x.getD 0 emp≠Vo/\x.getD 0 emp=zi:=by
    by_cases e1:x.getD 0 emp=Vo
    ·rw [Χ e1] at B;omega
    ·refine ⟨e1,Classical.byContradiction λhn=> ?_⟩;rw [Υ e1,Υ hn] at B;omega
   have Q:VY x=[WO 3,Ve 0 (x.getD 1 emp),Ve 2 ⟨#[42]⟩,Ve 0 (x.getD 2 emp),Ve 7 ⟨#[59]⟩]:=by unfold VY;rw [Υ U.1,Χ U.2]
   have d3:=Y.2.2 U.2;refine ⟨o5,h.ld0 (i:=0) rfl,V L h.le λh7 f4 c2 K=>⟨f4,K _ h.le,a5 (q:=1) c2 (by omega) λg7 f5=>⟨_,f5 _ h.le,?_⟩⟩⟩;refine V L h.le λg6 e7 b6 O=>⟨e7,O _ h.le,a5 (q:=2) b6 (by omega) λg3 a0=>⟨_,a0 _ h.le,?_⟩⟩;refine h.runv (cR _ _) λG6 F9 E h=>⟨_,rfl,a0 _ (aa E h.le),O _ (aa E h.le),K _ (aa E h.le),h.ld0 (i:=0) rfl,?_⟩;refine h.runv (cR _ _) λG7 d0 l7 h=>⟨_,rfl,a0 _ (aa E (aa l7 h.le)),O _ (aa E (aa l7 h.le)),K _ (aa E (aa l7 h.le)),h.ld0 (i:=0) rfl,?_⟩;have a3:=aa E l7;refine h.runv (cR _ _) λG8 b4 l8 h=>⟨_,rfl,O _ (aa a3 (aa l8 h.le)),K _ (aa a3 (aa l8 h.le)),h.ld0 (i:=0) rfl,?_⟩;have a8:=aa a3 l8;refine h.runv (cR _ _) λG9 c3 l9 h=>⟨_,rfl,O _ (aa a8 (aa l9 h.le)),K _ (aa a8 (aa l9 h.le)),h.ld0 (i:=0) rfl,rfl,rfl,rfl,rfl,?_⟩;refine h.newG λg2 Ga d1 la b9 _ h=> ?_;have a7:=aa a8 (aa l9 la);refine u6 (m:=[Ve 0 (x.getD 1 emp),Ve 2 ⟨#[42]⟩,Ve 0 (x.getD 2 emp),Ve 7 ⟨#[59]⟩]) h (RdS.new (h.le _ _ b9) (by kernel_rfl) rfl (tI _)) (by rw [tT];show _+1+4<=_;omega) λc5 o6 h=>⟨O _ (aa a7 h.le),K _ (aa a7 h.le),u0 h λe6 h=> ?_⟩;refine j3 (aa L a7) (o':=o6) ?_;rw [Q];rw [h3,yb] at h;exact h
  ·
   have U:x.getD 0 emp≠Vo/\x.getD 0 emp≠zi:=by
    by_cases e1:x.getD 0 emp=Vo
    ·rw [Χ e1] at B;omega
    ·by_cases e2:x.getD 0 emp=zi
     ·rw [Υ e1,Χ e2] at B;omega
     ·exact ⟨e1,e2⟩
   have e8:kk=5:=by rw [Υ U.1,Υ U.2] at B;exact B.symm
   have Q:VY x=[WO 5,Ve 3 ⟨#[40]⟩]++tG x.tail++[Ve 4 ⟨#[41]⟩]:=by unfold VY;rw [Υ U.1,Υ U.2]
   have h0:(tG x.tail).length<=600:=by rw [Q,tT,tT] at f3;have:([WO 5,Ve 3 ⟨#[40]⟩]:List Tmn).length=2:=rfl;omega
   subst e8;refine ⟨o5,h.ld0 (i:=0) rfl,?_⟩;refine h.runv (cR _ _) λG6 F9 E h=>⟨_,rfl,h.ld0 (i:=0) rfl,rfl,?_⟩;refine qO (y:=Ve 3 ⟨#[40]⟩) (by rw [tT];show _+1<=_;omega) h λG7 d0 o7 l7 h=> ?_;have a3:=aa E l7;have b5:=aa L a3;refine ⟨o7,h.ld0 (i:=0) rfl,V b5 h.le λg5 M a2 a9=> ?_⟩;have es:=a2.len;have b8:=a2.cap;have g4:=Y.1;refine ⟨M,a9 _ h.le,by omega,b8,?_⟩;have c8:RL G7 (xy M 1 1 M.len M.cap) x.tail:=by have:=(RL.strs.1 a2).cut (l:=1) (r:=M.len) (m:=M.cap) (by omega) (tI _) b8;rw [Wk,xZ] at this;refine RL.strs.2 ?_;rw [yY (by rw [WL,vb];omega),<- List.map_drop,List.drop_one] at this;exact this
   refine h.run (P:=λr w=>∃n,r=nV n/\RdS w n 4 (uX ((tG x.tail).map Vs))) (e9 ⟨x,b1,U⟩ (by rw [List.length_tail];omega) c8) λr G8 b4 hr l8 h=> ?_;obtain ⟨n8,rfl,d2⟩:=hr;have c9:n8.len=(tG x.tail).length:=by
    have:=d2.len;have h2:∀l:List Tmn,(uX (l.map Vs)).length=l.length*4:=λl=>by
     induction l with
     |nil=>rfl
     |cons x l ih=>rw [xV,cE,tT,ih];show 4+_=(l.length+1)*4;omega
    rw [h2] at this;omega
   refine ⟨n8,rfl,a9 _ (aa l8 h.le),h.ld0 (i:=0) rfl,?_⟩;refine u6 (m:=tG x.tail) h (d2.le h.le) (by rw [tT,tT,c9];show _+1+1+_<=_;omega) λc3 o8 h=>⟨a9 _ (aa l8 h.le),u0 h λd1 h=> ?_⟩;refine ⟨o8,h.ld0 (i:=0) rfl,?_⟩;refine h.runv (cR _ _) λG9 c5 l9 h=>⟨_,rfl,h.ld0 (i:=0) rfl,rfl,?_⟩;refine qO (y:=Ve 4 ⟨#[41]⟩) (by rw [tT,tT,tT];show _+1+1+_<=_;omega) h λGa e6 oa la h=> ?_;refine j3 (aa b5 (aa l8 (aa l9 la))) (o':=oa) ?_;rw [Q];simp only [yb] at h ⊢;exact h
 ·have:i=X.length:=by omega
  subst this;rw [wV] at h;unfold GR
  have h:=h.pick (λi=>match i with|0=>0|1=>2|2=>1|i+3=>i+3) (Bs:=pt b3 (mX #[o3.v,Sl.nil.v] 94)::pt b2 (mX #[tU nC 0 0,.slice nC 0 0] 94)::[own o3 137 4 (uX ((zq X).map Vs))]) (by
   intro i j hi hj e;simp only [wo,WZ] at hi hj
   match i,j,hi,hj,e with
   |0,0,_,_,_=>rfl
   |1,1,_,_,_=>rfl
   |2,2,_,_,_=>rfl
   |0,1,_,_,e=>simp at e
   |0,2,_,_,e=>simp at e
   |1,0,_,_,e=>simp at e
   |1,2,_,_,e=>simp at e
   |2,0,_,_,e=>simp at e
   |2,1,_,_,e=>simp at e) (by
   intro i hi;rw [<- hZ];simp only [wo,WZ] at hi
   match i,hi with
   |0,_=>rfl
   |1,_=>rfl
   |2,_=>rfl)
  refine ⟨_,rfl,h.whole0,h.put1 (w':= #[o3.v,Sl.nil.v]) rfl rfl (by simp [ak,nV]) λF7 h=>⟨_,rfl,h.whole1,?_⟩⟩;obtain ⟨G4,l4,e0,h⟩:=h.tail.tail.pinO;exact ⟨⟨o3,rfl,e0.le h.le⟩,aa lG (aa l4 h.le)⟩
end
theorem GX:∀(l:List Nod) (a:Int) (e:Bool) (t:Int),mP a e l t->dZ a e l t=nZ
 |[],a,e,t,h=>by
  unfold mP at h;unfold dZ;cases e with
  |true=>rw [Χ rfl] at h ⊢;exact ε h
  |false=>rw [Υ (by decide)] at h ⊢;exact ε h
 |n::l,a,e,t,h=>by unfold mP at h;rw [rA (λr=>Classical.byContradiction λg=>h.1 (.inl ⟨r,g⟩)) λg=>h.1 (.inr g)];exact GX l _ _ _ h.2
section
variable {W:Nat->Int×Int} {gp:Nat->Int}
theorem xX:∀(l:List Ttr),(∀k∈l,∀a,∀x∈xP (yd W gp a k),∀h fr to,x=.lf h fr to->∃j,a<=j/\j<a+yF k/\fr=(W j).1/\to=(W j).2)->∀a,∀x∈yj (Uw W gp a l),∀h fr to,x=.lf h fr to->∃j,a<=j/\j<a+zp l/\fr=(W j).1/\to=(W j).2
 |[],_,a,x,g,_,_,_,_=>by unfold Uw yj at g;cases g
 |k::l,ih,a,x,g,h,fr,to,e=>by
  rw [Uw,yj,vl] at g;unfold zp;rcases g with g|g
  ·obtain ⟨j,w,B,r⟩:=ih k (by simp) a x g h fr to e;exact ⟨j,w,by omega,r⟩
  ·obtain ⟨j,w,B,r⟩:=xX l (λk A=>ih k (by simp [A])) _ x g h fr to e;exact ⟨j,by omega,by omega,r⟩
theorem LG:∀(t:Ttr) (a:Nat),∀x∈xP (yd W gp a t),∀r fr to,x=.lf r fr to->∃j,a<=j/\j<a+yF t/\fr=(W j).1/\to=(W j).2:=Ttr.ind (λr a x g A fr to e=>by
  unfold yd xP at g;rw [wa] at g;rw [g] at e;cases e;unfold yF
  exact ⟨a,tI _,by omega,rfl,rfl⟩) λw h ih a x g r fr to e=>by
 rw [fm] at g;have B:yd W gp a (.nd w h)=.nd w (gp a) (gp (a+zp h)) (Uw W gp a h):=by rw [yd]
 rw [B] at g;rcases tQ.1 g with rfl|g
 ·cases e
 ·unfold yF;exact xX h ih a x g r fr to e
end
section
variable {g:Gr} {k:Nat} {c:Int} {T:List Tmn} {m:Ttr} {tx:ο} {ws:List (Nat×Nat)}
structure GdT (g:Gr) (c:Int) (tx:ByteArray) (D:Dtr):Prop where
 f:dY g D
 n:szN D<=2000000
 e:Xy g c D=0
 l:XT tx D=nZ
theorem GdT.op {D:Dtr} (h:GdT g c tx D):Wg g c tx D=0:=by unfold Wg;rw [Υ (μ h.e),Χ h.l]
theorem u7 {W:Nat->Int×Int} {gp:Nat->Int} {a:Nat}:szN (yd W gp a m)=yP m:=by unfold szN;rw [Iu,vb,Dk]
theorem GY (L:OkG g) (hi:Vg g c=nZ) (r:wx g (wP c) ⟨nS,g.start⟩ m) (P:yP m<=44537) (A:SpO T m tx ws):GdT g c tx (zk tx ws m):=by
 have J:=A.wd.wds;rw [A.len] at J;have G:=UR (W:=XC ws) (gp:=V0 ws tx.size) (n:=yF m) (QO _ _ _) J m _ 0 r (by omega);refine ⟨λx h=>(G x h).1,by rw [u7];omega,?_,?_⟩
 ·unfold Xy;have D:Wu g c=nZ:=by unfold Wu;rw [hi,Bool.and_true];exact ε (qC.2 L)
  rw [Χ D,Χ];unfold qS;rw [Vv,Vq];refine ⟨?_,λx h=> ?_⟩
  ·cases m with
   |lf E=>unfold wx at r;exact absurd r.1 (by simp)
   |nd N M=>unfold wx at r;obtain ⟨p,O,w,_⟩:=r;unfold zk yd Yj;dsimp only;rw [O];refine decide_eq_true ?_;have:=congrArg Sy.i w;exact this.symm
  ·obtain ⟨_,w,H⟩:=G x h;rw [Vv];cases x with
   |lf E C to=>exact ⟨w,rfl⟩
   |nd N C to M=>obtain ⟨p,B,K⟩:=w;refine ⟨?_,GX _ _ _ _ H⟩;unfold ye;dsimp only;rw [B];exact K
 ·unfold XT;rw [Vq];intro x h;cases x with
  |nd=>rfl
  |lf E C to=>obtain ⟨j,_,w,H,B⟩:=LG m 0 _ h E C to rfl;refine ε ?_;have I:ws[j]? =mB (ws[j]'(by rw [A.len];omega)):=N5 _;rw [B,Ah I];have:=(A.wd.wd j _ I).2.1;show ((_:Nat):Int)<=(tx.size:Int);omega
mutual
def XU (S:Nat->ο) (a:Nat):Ttr->Ltr
 | .lf _=> .lf (S a)
 | .nd pr ks=> .nd pr (Y9 S a ks)
def Y9 (S:Nat->ο) (a:Nat):List Ttr->List Ltr
 |[]=>[]
 |n::l=>XU S a n::Y9 S (a+yF n) l
end
theorem GZ {W:Nat->Int×Int} {gp:Nat->Int} {t:Int->Int->ο} {S:Nat->ο} {n:Nat} (h:∀j,j<n->t (W j).1 (W j).2=S j):∀(l:List Ttr),(∀k∈l,∀a,a+yF k<=n->Vn t (yd W gp a k)=XU S a k)->∀a,a+zp l<=n->ic t (Uw W gp a l)=Y9 S a l
 |[],_,a,_=>by unfold Uw ic Y9;rfl
 |k::l,ih,a,ha=>by unfold zp at ha;rw [Uw,ic,Y9,ih k (by simp) a (by omega),GZ h l (λk g=>ih k (by simp [g])) _ (by omega)]
theorem TF {W:Nat->Int×Int} {gp:Nat->Int} {t:Int->Int->ο} {S:Nat->ο} {n:Nat} (h:∀j,j<n->t (W j).1 (W j).2=S j):∀(m:Ttr) (a:Nat),a+yF m<=n->Vn t (yd W gp a m)=XU S a m:=Ttr.ind (λB a r=>by
  unfold yF at r;unfold yd Vn XU
  rw [h a (by omega)]) λw g ih a r=>by
 unfold yF at r;have A:yd W gp a (.nd w g)=.nd w (gp a) (gp (a+zp g)) (Uw W gp a g):=by rw [yd]
 rw [A,Vn,XU,GZ h g ih a r]
theorem Ha (h:SpO T m tx ws):Vn (vZ tx) (zk tx ws m)=XU (λj=>(lvs T).getD j .empty) 0 m:=by refine TF (n:=yF m) (λj A=> ?_) m 0 (by omega);have g:ws[j]? =mB (ws[j]'(by rw [h.len];omega)):=N5 _;obtain ⟨B,w,r⟩:=h.wd.wd j _ g;rw [Ah g,Vb,r];rfl
theorem QX (C:OkG g) {D:Dtr} (h:GdT g c tx D):LfT (vH g) D:=by
 intro x B A w to r e;have:=(HG C h.f h.l).nd x B;subst e;obtain ⟨_,_,_,_,_,_,G,E⟩:=this;refine ⟨λhd=> ?_,λH=> ?_⟩
 ·exact G (by
   have:0<(cg g (.nd A w to r)).d.toNat:=hd
   omega)
 ·exact E (by
   have:0<(cg g (.nd A w to r)).u.toNat:=H
   omega)
end
section
variable {g h:Gr} {k:Nat}
theorem Aq (r:AC g.qa0):¬kJ g:=λ⟨_,_,_,h⟩=>Ly r h
theorem Hb {n:Int} (I:0<=n) (C:n<g.qa1.length) (F:OkK g k) (D:Sz g) (J:AC g.qa0):GdG {g with start:=n} k:=by
 have A:=F.ok;have E:∀(l:List Pr) (r:List ο),dr g r l=0->dr {g with start:=n} r l=0:=λl=>by
  induction l with
  |nil=>intro r _;unfold dr;rfl
  |cons p l ih=>
   intro r w;unfold dr at w ⊢;by_cases C:iM g p
   ·rw [Υ (λB=>B C)] at w;by_cases G:KH g r p
    ·rw [Υ (λB=>B G)] at w;rw [Υ (λB=>B C),Υ (λB=>B G)];exact ih _ w
    ·rw [Χ G] at w;cases w
   ·rw [Χ C] at w;cases w
 have H:∀(l:List Lv) (r:Φ),dU g r l->dU {g with start:=n} r l:=λl=>by
  induction l with
  |nil=>intro _ _;trivial
  |cons x l ih=>exact λr h=>⟨h.1,ih _ h.2⟩
 exact ⟨⟨⟨A.large,A.fam,A.qa2,⟨A.qa1.1,I,C⟩,E _ _ A.qa0,H _ _ A.lvs,A.fils⟩,F.len,F.le⟩,⟨D.c,D.t,D.l,D.f⟩,Aq (g:={g with start:=n}) J⟩
end
theorem qfj:∃b z,SlT 144 30 1 b z:=⟨_,_,underlying144,qgm,qgt,rfl,by decide,by decide⟩
section
variable {F G:PH}
theorem qhp {s:Sl} {g:List ο} (Y:g.length<=100) (K:RL F s g):ν 63 #[s.v] F (ZU F g):=by
 obtain ⟨_,_,T⟩:=qfj;have es:=K.len;refine qfi ?_;unfold TD;have h:=(St.start F).nilOwn 30 1;refine ib (λN x v M=>Al N s _ x v M) g.length (λi o M=>∃(G:PH) (vs:List Γ),F.le G/\bT G ((g.take i).map λn=>[Vo,n]) vs/\o.len=i/\St G M [own o 30 1 (uX vs)]) pk ⟨F,[],au _,.nil,rfl,h⟩ ?_;rintro i o F1 N hi ⟨G1,vs,R,I,Z,h⟩ next;unfold Al;refine ⟨λA=> ?_,λL=> ?_⟩
 ·have A:i<g.length:=by omega
  refine u9 (K.le R) (by decide) (by omega) (by omega) λa c x w D hc=> ?_;rw [N4] at w;obtain rfl:c= #[pg x]:=hc;refine ⟨x,aF (aO h.le D) rfl,?_⟩;refine h.newG λH X F2 B Q _ h=> ?_;refine h.push0 T (c:= #[nV (Sb H 2)]) rfl (by simp [ak,nV]) (by omega) λo2 V F3 C h a0=> ?_;rw [aD A];refine next _ _ A ⟨V,vs++[#[nV (Sb H 2)]],aa R (aa B C),?_,by omega,?_⟩
  ·rw [bq w,yO];exact (I.le (aa B C)).append (.cons ⟨_,rfl,RL.strs.2 (RdS.new (C _ _ Q) rfl rfl (tI _))⟩ .nil)
  ·rw [be,cG];exact h
 ·have:i=g.length:=by omega
  subst this;rw [wV] at I;unfold GU;obtain ⟨X,B,J,h⟩:=h.pinO;have W:RL X o (g.map λn=>[Vo,n]):=⟨vs,I.le B,J⟩;have O:zq (g.map λn=>[Vo,n])=tG g:=by
   unfold zq tG;rw [vb];congr 1;clear I W Y K es hi Z next L;induction g with
   |nil=>rfl
   |cons n l ih=>rw [xV,VD,VD,ih];congr 1
  refine h.run (P:=λr G'=>∃n,r=oc #[nV n,Sl.nil.v]/\RdS G' n 4 (uX ((zq (g.map λn=>[Vo,n])).map Vs))) (qP W (λx w=> ?_) (λx w=> ?_) (by rw [vb];exact Y) λ⟨x,w,h1,_⟩=> ?_) λr V F3 U C h=> ?_
  ·obtain ⟨n,_,rfl⟩:=xR.1 w;exact ⟨by show 1<=2;decide,λ_=>tI _,λe=>absurd (show Vo=zi from e) (by decide)⟩
  ·obtain ⟨n,_,rfl⟩:=xR.1 w;show 2<=100;decide
  ·obtain ⟨n,_,rfl⟩:=xR.1 w;exact absurd rfl h1
  ·obtain ⟨n,rfl,E⟩:=U;rw [O] at E;exact ⟨_,rfl,n,rfl,⟨n,rfl,E.le h.le⟩,aa R (aa B (aa C h.le))⟩
def xD:Rw:=⟨2,0,[],[],[]⟩
theorem f7:aT xD=aR:=by unfold aT;show famG xD (cX xD)=_;unfold famG;rw [Υ (λh=>h.1 rfl)];rfl
theorem TG {n:Sl} {l:List Tmn} (g:∀x∈l,x.rm=[]) (h:RdS F n 4 (uX (l.map Vs))):RL F n l:=by
 refine ⟨l.map Vs,?_,h⟩;clear h;induction l with
 |nil=>exact .nil
 |cons x l ih=>rw [xV];refine .cons ⟨pk,rfl,?_⟩ (ih λy r=>g y (by simp [r]));rw [g x (by simp)];exact RL.nil _
abbrev sA:ByteArray:=⟨#[97]⟩
abbrev sB:ByteArray:=⟨#[98]⟩
abbrev sO:ByteArray:=⟨#[40]⟩
def TH:List (List ο):=[[Vo,sA],[zi,sA,sB]]
def TJ:List (List ο):=[[sO,sA],[zi,sA,sB]]
def Zp:Ttr:=.nd 2 [.lf 1,.lf 0,.lf 7]
def Zb:Ttr:=.nd 3 [.lf 0,.lf 2,.lf 0,.lf 7]
def tH:Ttr:=.nd 1 [.nd 1 [.nd 0 [],Zp],Zb]
def qQ:Ttr:=.nd 1 [.nd 1 [.nd 0 [],.nd 5 [.lf 3,.nd 1 [.nd 0 [],Zp],.lf 4]],Zb]
theorem CO:(zq TH).map Tmn.key=Vh tH:=by simp only [rE,gH,jA,kR,Ttr.kids,tH,Zp,Zb];rfl
theorem va:(zq TJ).map Tmn.key=Vh qQ:=by simp only [rE,gH,jA,kR,Ttr.kids,qQ,Zp,Zb];rfl
theorem Ar:yP tH=12:=by rw [<- eO,<- CO];rfl
theorem Hc:yP qQ=17:=by rw [<- eO,<- va];rfl
theorem Zo {g:Gr} {c:Cf} {pr:Int} {p:Pr} {ks:List Ttr} (w:V5 g pr=mB p) (h:(vf p.cond).ev c=nZ) (r:TrL g c p.right ks):wx g c ⟨nS,p.left⟩ (.nd pr ks):=by unfold wx;exact ⟨p,w,rfl,h,r⟩
theorem XR {g:Gr} {c:Cf} {h:Int} {t:Tk} (w:0<=h) (r:g.qa2[h.toNat]? =mB t) (A:(vf t.cond).ev c=nZ):wx g c ⟨nZ,h⟩ (.lf h):=by unfold wx;have:=(N6.1 r).1;refine ⟨rfl,w,by omega,?_⟩;unfold eH;rw [r];exact A
theorem WP {g:Gr} {c:Cf} {s:Sy} {r:List Sy} {k:Ttr} {ks:List Ttr} (h:wx g c s k) (w:TrL g c r ks):TrL g c (s::r) (k::ks):=by unfold TrL;exact ⟨h,w⟩
theorem dK (c:Cf):(vf dF).ev c=nZ:=by rw [ma (t:=Tr.qa6 nZ) trivial];rfl
theorem NR (c:Cf):wx aR c ⟨nS,1⟩ Zp:=
 Zo (p:={(bA ⟨#[116,121,112,101]⟩ 1 [⟨nZ,1⟩,⟨nZ,0⟩,⟨nZ,7⟩]) with sco:=⟨nS,2,1,0,0⟩}) rfl (dK c) (WP (XR (by decide) rfl (dK c)) (WP (XR (by decide) rfl (dK c)) (WP (XR (by decide) rfl (dK c)) .nil)))
theorem NS (c:Cf):wx aR c ⟨nS,1⟩ Zb:=
 Zo (p:={(bA ⟨#[112,111,105,110,116,101,114]⟩ 1 [⟨nZ,0⟩,⟨nZ,2⟩,⟨nZ,0⟩,⟨nZ,7⟩]) with sco:=⟨nS,3,2,1,2⟩}) rfl (dK c) (WP (XR (by decide) rfl (dK c)) (WP (XR (by decide) rfl (dK c)) (WP (XR (by decide) rfl (dK c)) (WP (XR (by decide) rfl (dK c)) .nil))))
theorem xY {c:Cf} {a b:Ttr} (h:wx aR c ⟨nS,0⟩ a) (g:wx aR c ⟨nS,1⟩ b):wx aR c ⟨nS,0⟩ (.nd 1 [a,b]):=
 Zo (p:=bA ⟨#[109,111,114,101]⟩ 0 [⟨nS,0⟩,⟨nS,1⟩]) rfl (dK c) (WP h (WP g .nil))
theorem Hd (c:Cf):wx aR c ⟨nS,0⟩ (.nd 0 []):=Zo (p:=bA ⟨#[101,109,112,116,121]⟩ 0 []) rfl (dK c) .nil
theorem He (c:Cf):wx (aT xD) c ⟨nS,0⟩ tH:=by rw [f7];exact xY (xY (Hd c) (NR c)) (NS c)
theorem Hf (c:Cf):wx (aT xD) c ⟨nS,0⟩ qQ:=by rw [f7];exact xY (xY (Hd c) (Zo (p:={(bA ⟨#[105,110,110,101,114]⟩ 1 [⟨nZ,3⟩,⟨nS,0⟩,⟨nZ,4⟩]) with sco:=⟨nZ,0,0,0,0⟩}) rfl (dK c) (WP (XR (by decide) rfl (dK c)) (WP (xY (Hd c) (NR c)) (WP (XR (by decide) rfl (dK c)) .nil))))) (NS c)
def ZQ (x:Tmn):Bool:=x.rm.isEmpty && decide (x.tx.size<=1000) && if 0<=x.pr then decide (x.tx.size=0) else decide (0<x.tx.size)
theorem NT {x:Tmn} (h:ZQ x=nZ):TmO x/\x.rm=[]:=by
 unfold ZQ at h;simp only [Vv,List.isEmpty_iff,δ] at h;obtain ⟨⟨w,C⟩,g⟩:=h;refine ⟨⟨by rw [w];exact yM _,by rw [w];intro r B;(cases B),C,λA=> ?_,λA=>⟨?_,w⟩⟩,w⟩
 ·rw [Υ (by omega)] at g;exact ζ g
 ·rw [Χ A] at g;have g:=ζ g;generalize x.tx=d at g;obtain ⟨d⟩:=d;have:d= #[]:=Array.eq_empty_of_size_eq_zero g;rw [this]
theorem Hg {F:PH} {n:Sl} {X:List (List ο)} {m:Ttr} (B:RdS F n 4 (uX ((zq X).map Vs))) (h:(zq X).all ZQ=nZ) (r:(zq X).map Tmn.key=Vh m) (w:wx (aT xD) (wP 0) ⟨nS,0⟩ m) (A:yP m<=44537):TmV F (aT xD) 0 ⟨nS,0⟩ #[n.v,Sl.nil.v] (zq X) [] m:=by rw [Vq] at h;exact ⟨⟨n,pk,rfl,TG (λx g=>(NT (h x g)).2) B,RL.nil _⟩,r,w,A,λx g=>(NT (h x g)).1,yM _,λx g=>(by cases g)⟩
def ZE (l:List (List tW×Bool)):Δ:=(List.range l.length).filter λi=>match l[i]? with
 |some x=> !x.2
 |none=>nS
section
variable {sp:Int->Spc} {tx:Int->Int->ο}
theorem CP:∀(l:List Dtr),(∀k∈l,LfT sp k)->(∀k∈l,∀az,WA sp az (Vn tx k)=List.zipWith (λs m=>(s,XB sp tx s m)) (zo sp tx az k) (xP k))->∀az,Yl sp az (ic tx l)=List.zipWith (λs m=>(s,XB sp tx s m)) (Vy sp tx az l) (yj l)
 |[],_,_,az=>by unfold ic Yl Vy yj;rfl
 |n::l,hl,h,az=>by rw [ic,Yl,Vy,yj,List.zipWith_append (by rw [iF,dI]),h n (by simp),Bj n (hl n (by simp)),CP l (λk g=>hl k (by simp [g])) λk g=>h k (by simp [g])]
theorem QY:∀n:Dtr,LfT sp n->∀az,WA sp az (Vn tx n)=List.zipWith (λs m=>(s,XB sp tx s m)) (zo sp tx az n) (xP n):=Dtr.ind (λC A to _ az=>by unfold Vn WA zo xP;rfl) λB A to r ih h az=>by have w:∀k∈r,LfT sp k:=λk g=>h.kid g;rw [Vn,WA,sU,fm,List.zipWith_cons_cons,Ry h.here,CP r w (λk g=>ih k g (w k g))];rfl
theorem NU {n:Dtr} (h:LfT sp n):Wm sp tx n=ZE (WA sp [] (Vn tx n)):=by
 have g:=QY (tx:=tx) n h [];unfold Wm ZE;rw [g,List.length_zipWith,iF,dI,Nat.min_self];congr 1;funext i;rw [List.getElem?_zipWith'];unfold bP;cases (zo sp tx [] n)[i]? with
 |none=>rfl
 |some s=>
  cases (xP n)[i]? with
  |none=>rfl
  |some m=>rfl
end
def LH:Ltr:=XU (λj=>(lvs (zq TH)).getD j .empty) 0 tH
def TK:Ltr:=XU (λj=>(lvs (zq TJ)).getD j .empty) 0 qQ
theorem QZ:YF (vH aR) LH=[(sA,1),(sB,2)]:=by kernel_rfl
theorem Q0:((WA (vH aR) [] LH).map Prod.fst)[11]? =mB [(sA,1)]:=by kernel_rfl
theorem Q1:ZE (WA (vH aR) [] LH)=[]:=by kernel_rfl
theorem Q2:ZE (WA (vH aR) [] TK)=[12]:=by kernel_rfl
end
structure LwO (G:PH) (g:Gr) (k b6:Nat) (w:Γ) (c:Nat) (tx:ByteArray) (t:Sl) (D:Dtr):Prop where
 tab:Tab G
 q:G b6=mB (mX w 39)
 gv:GV G w g
 gd:GdG g k
 ac:AC g.qa0
 c8:c<8
 inw:Vg g (c:Int)=nZ
 rl:RL G t (vq D)
 td:GdT g (c:Int) tx D
 n:szN D<=44537
theorem LwO.le {G A:PH} {g:Gr} {k r:Nat} {w:Γ} {c:Nat} {tx:ο} {t:Sl} {D:Dtr} (h:LwO G g k r w c tx t D) (l:G.le A):LwO A g k r w c tx t D:=⟨h.tab.le l,l _ _ h.q,h.gv.le l,h.gd,h.ac,h.c8,h.inw,h.rl.le l,h.td,h.n⟩
section
variable {F G:PH} {g:Gr} {k b6 c:Nat} {w:Γ} {tx:ο} {t:Sl} {D m:Dtr} {i:Nat}
theorem LwO.len (h:LwO G g k b6 w c tx t D):t.len=szN D:=h.rl.len
theorem LwO.row (h:LwO G g k b6 w c tx t D) (l:G.le F):F.row (pd b6 0 nC) w:=ai (l _ _ h.q)
theorem LwO.lft (h:LwO G g k b6 w c tx t D):LfT (vH g) D:=QX h.gd.ok.ok h.td
theorem LwO.exA (h:LwO G g k b6 w c tx t D) (r:bP D i=mB m):exA g (c:Int) tx D (i:Int)=(yL (vH g) (vZ tx) m,0):=by unfold Go.Proofs.YteilolbbgieadaaGreatDoor.exA;rw [Υ (μ h.td.op),Χ (by omega),N4,r]
theorem LwO.vsA (h:LwO G g k b6 w c tx t D) {l:List tW} (r:(zo (vH g) (vZ tx) [] D)[i]? =mB l):vsA g (c:Int) tx D (i:Int)=(l,0):=by unfold Go.Proofs.YteilolbbgieadaaGreatDoor.vsA;rw [Υ (μ h.td.op),Χ (by omega),N4,r]
theorem LwO.voA (h:LwO G g k b6 w c tx t D):voA g (c:Int) tx D=(Wm (vH g) (vZ tx) D,0):=by unfold Go.Proofs.YteilolbbgieadaaGreatDoor.voA;rw [Υ (μ h.td.op)]
theorem LwO.exports (h:LwO G g k b6 w c tx t D) (H:bP D i=mB m):ν 11 #[oc w,tJ .u64 (c:Int),pg tx,t.v,vi (i:Int)] G λr A=>(∃s:Sl,r=sj #[s.v,vi 0]/\RL A s (yL (vH g) (vZ tx) m))/\G.le A:=
 have I:=h.c8
 (lL h.tab h.gv h.gd h.td.f h.td.n h.rl (by omega) (by omega)).mono λr A ⟨⟨s,C,B⟩,E⟩=>by rw [h.exA H] at C B;exact ⟨⟨s,C,B⟩,E⟩
theorem LwO.visible (h:LwO G g k b6 w c tx t D) {l:List tW} (H:(zo (vH g) (vZ tx) [] D)[i]? =mB l):ν 13 #[oc w,tJ .u64 (c:Int),pg tx,t.v,vi (i:Int)] G λr A=>(∃s:Sl,r=sj #[s.v,vi 0]/\RL A s l)/\G.le A:=
 have I:=h.c8
 (qhz h.tab h.gv h.gd h.td.f h.td.n h.rl (by omega) (by omega)).mono λr A ⟨⟨s,C,B⟩,E⟩=>by rw [h.vsA H] at C B;exact ⟨⟨s,C,B⟩,E⟩
theorem LwO.violations (h:LwO G g k b6 w c tx t D):ν 15 #[oc w,tJ .u64 (c:Int),pg tx,t.v] G λr A=>(∃s:Sl,r=sj #[s.v,vi 0]/\RL A s ((Wm (vH g) (vZ tx) D).map Vio.mk))/\G.le A:=
 have H:=h.c8
 (iN h.tab h.gv h.gd h.td.f h.td.n h.rl (by omega) (by omega)).mono λr A ⟨⟨s,C,B⟩,E⟩=>by rw [h.voA] at C B;exact ⟨⟨s,C,B⟩,E⟩
theorem LwO.qa7 (h:LwO G g k b6 w c tx t D) (l:G.le F) (B:bP D i=mB m) {K:Addr->Prop} (C:∀a,F.row (a.add (i*4)) m.root.arr->K a):∃a,t.qa5=mB a/\0<=(i:Int)/\(i:Int)<(t.len:Int)/\K a:=by have I:=h.len;have hi:=eC B;refine u9 (h.rl.le l) (by decide) (by omega) (by omega) λa H x A r E=> ?_;obtain rfl:H=x.arr:=E;rw [N4,gQ B] at A;cases A;exact C a r
theorem LwO.prod (h:LwO G g k b6 w c tx t D) (E:bP D i=mB m) (C:0<=m.root.pr):∃pr fr to ks p,m=.nd pr fr to ks/\V5 g pr=mB p/\p.sco=cg g m/\ks.length=p.right.length:=by
 have B:=(h.td.f.sub E).here;cases m with
 |lf H fr to=>exact absurd C (by show ¬(0:Int)<=-1;decide)
 |nd pr fr to ks=>
  obtain ⟨_,_,p,r,A⟩:=B;refine ⟨pr,fr,to,ks,p,rfl,r,?_,?_⟩
  ·unfold cg;dsimp only;rw [r];rfl
  ·rw [A,vb]
end
section
variable {F:PH} {v:Γ} {x:Rw} {j:Nat} {L N:Δ}
theorem Q3 {G:PH} {r c:Nat} {w:Γ} {tx:ο} {t:Sl} {T:List Tmn} {C:List ο} {m:Ttr} {A:List (Nat×Nat)} (D:Tab G) (q:G r=mB (mX w 39)) (h:GW G x w c tx t T C m A):LwO G (aT x) (aT x).qa4.length r w c tx t (zk tx A m):=by obtain ⟨B,E⟩:=iD x;have g:=h.sz;refine ⟨D,q,h.gv,⟨lC x,B.sz E,Aq (pm x)⟩,pm x,h.c8,h.inw,h.rl,GY (mO x) h.inw (by rw [B.start];exact h.tr) g h.sp,by rw [u7];exact g⟩
end
structure SwK (F0:PH) (b1:Nat) (w:Γ) (s0:ByteArray) (As:List (Ψ)) (F:PH) (x y z:Nat) (n:Sl) (p q r s:Bool):Prop where
 ex:∃G,F0.le G/\St G F As/\(p=nZ->G x=mB (mX #[pg s0,.string sA] 9))/\(q=nZ->G y=mB (mX #[pg zi,pg sA,pg sB] 9))/\(r=nZ->RL G (Sb z 2) [[s0,sA],[zi,sA,sB]])/\(s=nZ->RdS G n 4 (uX ((zq [[s0,sA],[zi,sA,sB]]).map Vs)))
 q1:F0 b1=mB (mX w 39)
 hg:GV F0 w (aT xD)
section
variable {F0 F:PH} {b1:Nat} {w:Γ} {s0:ο} {As:List (Ψ)} {x y z:Nat} {n:Sl} {p q r s:Bool} {C:Nat->Ψ}
theorem SwK.row (H:SwK F0 b1 w s0 As F x y z n p q r s):F.row (Am b1 0) w:=by obtain ⟨G,l,h,_⟩:=H.ex;exact ai (h.le _ _ (l _ _ H.q1))
theorem SwK.n1 (H:SwK F0 b1 w s0 As F x y z n p q r s) (k:∀x F,SwK F0 b1 w s0 As F x y z n nZ q r s->C x F):Nb F (mX #[pg s0,.string sA] 9) C:=by obtain ⟨G,l,h,K,D,E,B⟩:=H.ex;exact h.newG λb J A g I _ h=>k b A ⟨⟨J,aa l g,h,λ_=>I,λe=>g _ _ (D e),λe=>(E e).le g,λe=>(B e).le g⟩,H.q1,H.hg⟩
theorem SwK.n2 (H:SwK F0 b1 w s0 As F x y z n p q r s) (k:∀y F,SwK F0 b1 w s0 As F x y z n p nZ r s->C y F):Nb F (mX #[pg zi,pg sA,pg sB] 9) C:=by obtain ⟨G,l,h,E,K,D,B⟩:=H.ex;exact h.newG λb J A g I _ h=>k b A ⟨⟨J,aa l g,h,λe=>g _ _ (E e),λ_=>I,λe=>(D e).le g,λe=>(B e).le g⟩,H.q1,H.hg⟩
theorem SwK.n3 (H:SwK F0 b1 w s0 As F x y z n nZ nZ r s) (k:∀z F,SwK F0 b1 w s0 As F x y z n nZ nZ nZ s->C z F):Nb F (mX #[nV (Sb x 2),nV (Sb y 3)] 30) C:=by obtain ⟨G,l,h,B,A,K,E⟩:=H.ex;refine h.newG λb J D g I _ h=>k b D ⟨⟨J,aa l g,h,λe=>g _ _ (B e),λe=>g _ _ (A e),λ_=> ?_,λe=>(E e).le g⟩,H.q1,H.hg⟩;refine ⟨[#[nV (Sb x 2)],#[nV (Sb y 3)]],.cons ⟨_,rfl,RL.strs.2 (RdS.new (g _ _ (B rfl)) rfl rfl (tI _))⟩ (.cons ⟨_,rfl,RL.strs.2 (RdS.new (g _ _ (A rfl)) rfl rfl (tI _))⟩ .nil),RdS.new I rfl rfl (tI _)⟩
theorem SwK.n4 (H:SwK F0 b1 w s0 [] F x y z n p q r s) (k:∀b F,SwK F0 b1 w s0 [pt b (mX #[tU nC 0 0,.slice nC 0 0,vi 0,vi 0] 89)] F x y z n p q r s->C b F):Nb F (mX #[tU nC 0 0,.slice nC 0 0,vi 0,vi 0] 89) C:=by obtain ⟨G,l,h,A⟩:=H.ex;exact h.new λb g h=>k b g ⟨⟨G,l,h,A⟩,H.q1,H.hg⟩
theorem SwK.st {C:Γ->Ψ} (N:LF [s0,sA]) (H:SwK F0 b1 w s0 As F x y z n p q nZ s) (k:∀n F,SwK F0 b1 w s0 As F x y z n p q nZ nZ->C #[nV n,Sl.nil.v] F):Ca 29 #[nV (Sb z 2)] F C:=by
 obtain ⟨G,l,h,K,M,E,O⟩:=H.ex;refine h.run (P:=λr D=>∃n,r=oc #[nV n,Sl.nil.v]/\RdS D n 4 (uX ((zq [[s0,sA],[zi,sA,sB]]).map Vs))) (qP (E rfl) (λx g=> ?_) (λx g=> ?_) (by show 2<=100;decide) λ_=>qhp) λr D I L A h=> ?_
 ·simp only [tQ,Ws,or_false] at g;rcases g with rfl|rfl
  ·exact N
  ·exact ⟨by decide,λ_=>by decide,λ_=>by decide⟩
 ·simp only [tQ,Ws,or_false] at g;rcases g with rfl|rfl
  ·show 2<=100;decide
  ·show 3<=100;decide
 ·obtain ⟨J,rfl,B⟩:=L;exact ⟨_,rfl,k J I ⟨⟨D,aa l A,h,λe=>A _ _ (K e),λe=>A _ _ (M e),λe=>(E e).le A,λ_=>B⟩,H.q1,H.hg⟩⟩
def Zs (F0:PH) (s0:ο) (m:Ttr) (tx:ο) (t:Sl) (F:PH):Prop:=∃G ws,F0.le G/\SpO (zq [[s0,sA],[zi,sA,sB]]) m tx ws/\RL G t (vq (zk tx ws m))/\St G F []
variable {m:Ttr} {K:ο->Sl->Ψ}
theorem SwK.spread (U:∀{G:PH} {n:Sl},RdS G n 4 (uX ((zq [[s0,sA],[zi,sA,sB]]).map Vs))->TmV G (aT xD) 0 ⟨nS,0⟩ #[n.v,Sl.nil.v] (zq [[s0,sA],[zi,sA,sB]]) [] m) (H:SwK F0 b1 w s0 As F x y z n p q r nZ) {C:ξ->Ψ}
  (k:∀(tx:ο) (B:Γ) (t:Sl) g G A,F0.le G->B.size=4->(∀x∈B.toList,ak x)->SpO (zq [[s0,sA],[zi,sA,sB]]) m tx g->RL G t (vq (zk tx g m))->St G A As->C (sj #[pg tx,oc B,t.v]) A):ν 28 #[oc w,oc #[nV n,Sl.nil.v],nV pk] F C:=by
 obtain ⟨G,l,h,Y,W,X,M⟩:=H.ex;refine h.run (P:=λr L=>∃(tx:ο) (p:Γ) (t:Sl) (g:List (Nat×Nat)),r=sj #[pg tx,oc p,t.v]/\p.size=4/\(∀x∈p.toList,ak x)/\SpO (zq [[s0,sA],[zi,sA,sB]]) m tx g/\RL L t (vq (zk tx g m))) ((oq (N:=[]) (H.hg.le l) (mO xD) (U (M rfl)) (RdS.nil _ _)).mono λr A ⟨a,b,c,d,R,I,J,D,E,O⟩=>⟨⟨a,b,c,d,R,I,J,D,E⟩,O⟩) λr L A Q V h=> ?_;obtain ⟨tx,B,t,g,rfl,I,J,D,E⟩:=Q;exact k tx B t g L A (aa l V) I J D E h
theorem SwK.sp1 {A:Nat} (N:∀{G:PH} {n:Sl},RdS G n 4 (uX ((zq [[s0,sA],[zi,sA,sB]]).map Vs))->TmV G (aT xD) 0 ⟨nS,0⟩ #[n.v,Sl.nil.v] (zq [[s0,sA],[zi,sA,sB]]) [] m) (I:∀tx t F,Zs F0 s0 m tx t F->K tx t F) (H:SwK F0 b1 w s0 [pt A (mX #[tU nC 0 0,.slice nC 0 0,vi 0,vi 0] 89)] F x y z n p q r nZ):
  ν 28 #[oc w,oc #[nV n,Sl.nil.v],nV pk] F λv F=>∃tx,∃p,∃t,v=sj #[pg tx,oc p,nV t]/\aB F (Am A 0) 4 p λF=>K tx t F:=
 H.spread N λtx g t B G _ l L M E J h=>⟨tx,g,t,rfl,h.put0 (w':=g) L rfl M λ_ h=>I _ _ _ ⟨G,B,l,E,J,h.tail⟩⟩
theorem SwK.sp0 (N:∀{G:PH} {n:Sl},RdS G n 4 (uX ((zq [[s0,sA],[zi,sA,sB]]).map Vs))->TmV G (aT xD) 0 ⟨nS,0⟩ #[n.v,Sl.nil.v] (zq [[s0,sA],[zi,sA,sB]]) [] m) (I:∀tx t F,Zs F0 s0 m tx t F->K tx t F) (H:SwK F0 b1 w s0 [] F x y z n p q r nZ):
  ν 28 #[oc w,oc #[nV n,Sl.nil.v],nV pk] F λv F=>∃tx,∃p,∃t,v=sj #[pg tx,oc p,nV t]/\Nb F (mX #[tU nC 0 0,.slice nC 0 0,vi 0,vi 0] 89) λB F=>aB F (Am B 0) 4 p λF=>K tx t F:=
 H.spread N λtx A t D G _ l L M E J h=>⟨tx,A,t,rfl,h.new λB g h=>h.put0 (w':=A) L rfl M λg h=>I _ _ _ ⟨G,D,l,E,J,h.tail⟩⟩
theorem Hh:Vg (aT xD) ((0:Nat):Int)=nZ:=by refine GE (lC xD) (Nat.pow_pos (by decide)) ?_;rw [f7];exact dK _
theorem CQ {G:PH} {t:Sl} {g:List (Nat×Nat)} {tx:ο} {T:List Tmn} (E:Tab G) (q1:G b1=mB (mX w 39)) (H:GV G w (aT xD)) (J:SpO T m tx g) (I:RL G t (vq (zk tx g m))) (h:wx (aT xD) (wP 0) ⟨nS,0⟩ m) (A:yP m<=44537):LwO G (aT xD) (aT xD).qa4.length b1 w 0 tx t (zk tx g m):=by obtain ⟨B,D⟩:=iD xD;exact ⟨E,q1,H,⟨lC xD,B.sz D,Aq (pm xD)⟩,pm xD,by decide,Hh,I,GY (mO xD) Hh (by rw [B.start];exact h) A J,by rw [u7];exact A⟩
theorem Q4 {t u:Sl} {tx Z:ο} {D E:Dtr} {k:Nat} {G:PH} (H:LwO G (aT xD) k b1 w 0 tx t D) (hE:LwO G (aT xD) k b1 w 0 Z u E) (lF:F0.le G) (h:St G F []) (x1:yL (vH (aT xD)) (vZ tx) D=[(sA,1),(sB,2)]) (x2:Wm (vH (aT xD)) (vZ tx) D=[]) (x3:Wm (vH (aT xD)) (vZ Z) E=[12]) (x4:szN D=12) (x5:(zo (vH (aT xD)) (vZ tx) [] D)[11]? =mB [(sA,1)]) (x6:∃y:Nod,(vq E)[12]? =mB y/\y.pr=3):
  CJ b1 tx t Z u (RT F0) F:=by
 have Y:=H.gv.size;unfold CJ;refine ⟨w,Y,H.row h.le,?_⟩;refine h.run (P:=λr O=>∃s:Sl,r=sj #[s.v,vi 0]/\RL O s (yL (vH (aT xD)) (vZ tx) D)) (H.exports (i:=0) (dT D)) λr G1 F1 X l1 h=> ?_;obtain ⟨sa,rfl,ha⟩:=X;refine ⟨sa,0,rfl,w,Y,H.row (aa l1 h.le),?_⟩;refine h.run (P:=λr O=>∃s:Sl,r=sj #[s.v,vi 0]/\RL O s ((Wm (vH (aT xD)) (vZ tx) D).map Vio.mk)) (H.le l1).violations λr G2 F2 X l2 h=> ?_;obtain ⟨sb,rfl,hb⟩:=X;have Q:=aa l1 l2;refine ⟨sb,0,rfl,w,Y,H.row (aa Q h.le),?_⟩;refine h.run (P:=λr O=>∃s:Sl,r=sj #[s.v,vi 0]/\RL O s ((Wm (vH (aT xD)) (vZ Z) E).map Vio.mk)) (hE.le Q).violations λr G3 F3 X l3 h=> ?_;obtain ⟨sc,rfl,U⟩:=X;have R:=aa Q l3;rw [x3] at U;rw [x2] at hb;rw [x1] at ha;have ec:=U.len;have eb:=hb.len;have et:=H.len;rw [x4] at et;have ec:sc.len=1:=ec;have eb:sb.len=0:=eb;refine ⟨sc,0,rfl,λg=>absurd (by rw [ec];rfl) g,λ_=>⟨w,Y,H.row (aa R h.le),?_⟩⟩;have a7:i64.wrap ((t.len:Int) - 1)=((11:Nat):Int):=by rw [et];decide
 rw [a7];refine h.run (P:=λr O=>∃s:Sl,r=sj #[s.v,vi 0]/\RL O s [(sA,(1:Int))]) ((H.le R).visible x5) λr G4 F4 X l4 h=> ?_;obtain ⟨sv,rfl,b3⟩:=X;have a9:=aa R l4;refine ⟨sv,0,rfl,rfl,rfl,h.newG λL G5 F5 l5 a6 _ h=> ?_⟩;have b4:=aa a9 l5;have a0:RL G5 (Sb L 2) ([(sA,1),(sB,2)]:List tW):=RL.nams.2 (RdS.new a6 (by kernel_rfl) rfl (tI _));refine ⟨λ_=> ?_,λg=>absurd rfl g⟩;refine h.runv (v:=oY nZ) ((fI (ha.le (aa l2 (aa l3 (aa l4 l5)))) a0 (by show 2<=_;decide)).mono λr F' ⟨V,N⟩=>⟨by rw [V,ε rfl],by rw [N];exact au _⟩) λG6 F6 l6 h=>⟨_,rfl,λ_=> ?_,λg=>(by cases g)⟩;have a1:=aa b4 l6;refine ⟨λ_=>⟨λ_=>⟨λ_=> ?_,λg=>absurd rfl g⟩,λg=>absurd (by rw [eb];rfl) g⟩,λg=>absurd rfl g⟩;have b0:=U.le (aa l4 (aa l5 l6));have W:∀{C:Addr->Prop},(∀a,F6.row (a.add (pc (0:Int)*3)) #[vi 6,vi ((12:Nat):Int),vi 0]->C a)->Ix sc (0:Int) C:=λ{C} k=>by refine u9 b0 (by decide) (by decide) (by omega) λa c y hy J U=>k a ?_;cases hy;obtain rfl:c=_:=U;exact aO h.le J
 refine W λb8 a8=>⟨6,aF a8 rfl,λ_=> ?_,λg=>absurd rfl g⟩;refine W λb6 a4=>⟨0,aN a4 (i:=2) rfl,λ_=> ?_,λg=>absurd rfl g⟩;refine W λb7 a2=>⟨_,aN a2 (i:=1) rfl,?_⟩;obtain ⟨y,hy,b2⟩:=x6;have eu:=hE.len;have M:=(N6.1 hy).1;have M:12<szN E:=M;refine u9 ((hE.rl.le a1)) (by decide) (by omega) (by omega) λb5 cc y' a3 J U=> ?_;rw [N4,hy] at a3;cases a3;obtain rfl:cc=y.arr:=U;refine ⟨y.pr,aF (aO h.le J) rfl,λ_=> ?_,λg=>absurd b2 g⟩;refine ⟨λ_=> ?_,λg=>absurd rfl g⟩;refine ⟨by decide,by show 1<=2;decide,?_⟩;have a5:RL G6 (xy (Sb L 2) 2 0 1 (Sb L 2).cap) ([(sA,1)]:List tW):=by have:=(RL.nams.1 (a0.le l6)).cut (l:=0) (r:=1) (m:=(Sb L 2).cap) (yM _) (by show 1<=2;decide) (by show 1<=2;decide);rw [V9,Vz,VV,Wk] at this;exact RL.nams.2 this
 refine h.runv (v:=oY nZ) ((fI (b3.le (aa l5 l6)) a5 (by show 1<=_;decide)).mono λr F' ⟨V,N⟩=>⟨by rw [V,ε rfl],by rw [N];exact au _⟩) λG7 F7 l7 h=>⟨_,rfl,λ_=> ?_,λg=>(by cases g)⟩;have I:=aa a1 l7;refine ⟨w,Y,H.row (aa I h.le),?_⟩;have B:=H.le I;refine h.runv (v:=oY nZ) ((kq B.tab B.gv B.gd B.td.f B.td.n B.rl (by decide) (by decide)).mono λr F' ⟨V,N⟩=>⟨by rw [V];rw [show voA (aT xD) 0 tx D=_ from B.voA,x2];rfl,N⟩) λG8 F8 l8 h=>⟨_,rfl,λ_=> ?_,λg=>(by cases g)⟩;refine ⟨w,Y,H.row (aa I (aa l8 h.le)),?_⟩;have A:=hE.le (aa I l8);refine h.runv (v:=oY nS) ((kq A.tab A.gv A.gd A.td.f A.td.n A.rl (by decide) (by decide)).mono λr F' ⟨V,N⟩=>⟨by rw [V];rw [show voA (aT xD) 0 Z E=_ from A.voA,x3];rfl,N⟩) λG9 F9 l9 h=>⟨_,rfl,rfl,aa lF (aa I (aa l8 (aa l9 h.le)))⟩
theorem Hi {G:PH} {n:Sl} (h:RdS G n 4 (uX ((zq [[Vo,sA],[zi,sA,sB]]).map Vs))):TmV G (aT xD) 0 ⟨nS,0⟩ #[n.v,Sl.nil.v] (zq [[Vo,sA],[zi,sA,sB]]) [] tH:=Hg h (by decide) CO (He _) (by rw [Ar];decide)
theorem Hj {G:PH} {n:Sl} (h:RdS G n 4 (uX ((zq [[sO,sA],[zi,sA,sB]]).map Vs))):TmV G (aT xD) 0 ⟨nS,0⟩ #[n.v,Sl.nil.v] (zq [[sO,sA],[zi,sA,sB]]) [] qQ:=Hg h (by decide) va (Hf _) (by rw [Hc];decide)
theorem TL {G:PH} {t:Sl} {tx:ο} {J:List (Nat×Nat)} (P:Tab G) (q1:G b1=mB (mX w 39)) (D:GV G w (aT xD)) (R:F0.le G) (N:SpO (zq [[Vo,sA],[zi,sA,sB]]) tH tx J) (U:RL G t (vq (zk tx J tH))) (h:St G F []):CL b1 tx t (RT F0) F:=by
 have V:=D.size;unfold CL;have H:SwK G b1 w sO [] F 0 0 0 pk nS nS nS nS:=⟨⟨G,au _,h,λe=>(by cases e),λe=>(by cases e),λe=>(by cases e),λe=>(by cases e)⟩,q1,D⟩;have O:∀A u F,Zs G sO qQ A u F->CJ b1 tx t A u (RT F0) F:=λA u F ⟨G',vs,l,B,hu,h⟩=>by
  have M:=CQ (P.le l) (l _ _ q1) (D.le l) N (U.le l) (He _) (by rw [Ar];decide);have Q:=CQ (P.le l) (l _ _ q1) (D.le l) B hu (Hf _) (by rw [Hc];decide);have L:=M.lft;have W:=Q.lft;have I:Vn (vZ tx) (zk tx J tH)=LH:=Ha N;have Y:Vn (vZ A) (zk A vs qQ)=TK:=Ha B;refine Q4 M Q (aa R l) h ?_ ?_ ?_ ?_ ?_ ?_
  ·rw [<- Bj _ L,I,f7];exact QZ
  ·rw [NU L,I,f7];exact Q1
  ·rw [NU W,Y,f7];exact Q2
  ·rw [u7,Ar]
  ·rw [<- Rz _ L,I,f7];exact Q0
  ·have E:=va;have g:(Vh qQ)[12]? =mB (3,-1):=by rw [<- E];rfl
   rw [<- vX 0] at g;rw [show zk A vs qQ=yd _ _ 0 qQ from rfl,Iu];rw [yr] at g ⊢;obtain ⟨y,X,E⟩:=Zg.1 g;rw [X];refine ⟨_,rfl,?_⟩;obtain ⟨y,a⟩:=y;cases y with
   |lf tk=>exact absurd (congrArg Prod.fst E) (by show ¬(-1:Int)=3;decide)
   |nd pr ks=>unfold yd;exact congrArg Prod.fst E
 refine ⟨w,V,H.row,?_⟩;have Z:LF [sO,sA]:=⟨by decide,λ_=>by decide,λe=>absurd (show sO=zi from e) (by decide)⟩
 repeat' first
  |exact SwK.sp0 Hj O H
  |exact SwK.sp1 Hj O H
  |refine ⟨H.row,?_⟩
  |refine And.intro ?_ ?_
  |refine H.n1 λx F H=> ?_
  |refine H.n2 λy F H=> ?_
  |refine H.n3 λz F H=> ?_
  |refine H.n4 λb F H=> ?_
  |refine H.st Z λn F H=> ?_
theorem qhe (Q:Tab F):ν 9 #[] F (RT F):=by
 refine cQ9 ?_;unfold Z0;refine (St.start F).run (P:=λr M=>∃w,r=oc w/\GV M w aR) (gq F) λr X W R V h=> ?_;obtain ⟨w,rfl,A⟩:=R;rw [<- f7] at A;refine ⟨w,rfl,?_⟩;refine h.var A.st (λb1 I F2 J q1 h=> ?_) rfl A.size;have B:=aa V J;have g:=A.le J;have G:=Q.le B;have H:SwK I b1 w Vo [] F2 0 0 0 pk nS nS nS nS:=⟨⟨I,au _,h,λe=>(by cases e),λe=>(by cases e),λe=>(by cases e),λe=>(by cases e)⟩,q1,g⟩;have L:∀E t D,Zs I Vo tH E t D->CL b1 E t (RT F) D:=λE t D ⟨M,Y,l,N,O,h⟩=>TL (G.le l) (l _ _ q1) (g.le l) (aa B l) N O h;refine ⟨w,A.size,H.row,?_⟩;have U:LF [Vo,sA]:=⟨by decide,λ_=>by decide,λe=>absurd (show Vo=zi from e) (by decide)⟩
 repeat' first
  |exact SwK.sp0 Hi L H
  |exact SwK.sp1 Hi L H
  |refine ⟨H.row,?_⟩
  |refine And.intro ?_ ?_
  |refine H.n1 λx F H=> ?_
  |refine H.n2 λy F H=> ?_
  |refine H.n3 λz F H=> ?_
  |refine H.n4 λb F H=> ?_
  |refine H.st U λn F H=> ?_
end
section
variable {F:PH} {v:Γ} {x:Rw} {j:Nat} {L N:Δ}
theorem Fp {F0:PH} {K:Bool->Nat->Int->ο->Sl->Ψ} (R:Tab F) (I:InV F v x j L N) (M:F0.le F)
  (k:∀{G O:PH} {k' g c:Nat} {w:Γ} {tx:ο} {t:Sl} {m:Ttr} {U:List (Nat×Nat)},F0.le G->LwO G (aT (xW x)) k' g w c tx t (zk tx U m)->St G O []->K nZ g (c:Int) tx t O):
  Nb F (mX v 28) λQ F=>vc 9 #[] F λs F=>Lr F 8 (Am Q 0) λE=>ν 10 #[oc E] F λr F=>∃a,∃c,∃tx,∃t,∃ok,r=sj #[oc a,tJ .u64 c,pg tx,nV t,oY ok]/\Nb F (mX zG 39) λg F=>aB F (Am g 0) 9 a λF=>Bb (!ok) (RT F0 (oY s) F) (K s g c tx t F):=by
 have W:v.size=8:=by obtain ⟨_,_,_,_,_,_,_,rfl,_⟩:=I.ex;rfl
 refine (St.start F).newG λQ G1 F1 V q2 _ h=> ?_;refine h.runv (qhe (R.le V)) λG2 F2 J h=>⟨_,rfl,v,W,ai (h.le _ _ (J _ _ q2)),?_⟩;have C:=aa V J;refine h.run (P:=λr G'=>QV G2 (xW x) r G') (An (I.le C)) λr G3 F3 hr Z h=> ?_;obtain ⟨w,c,D,c8,Y⟩:=hr;have A:=aa C Z;rcases Y with ⟨tx,t,rfl⟩|⟨tx,t,T,tl,m,U,rfl,hG⟩
 ·refine ⟨_,_,_,_,_,rfl,?_⟩;refine h.var D.st (λg X F4 B q6 h=> ?_) rfl D.size;exact ⟨λ_=>⟨rfl,aa M (aa A (aa B h.le))⟩,λH=>(by cases H)⟩
 ·refine ⟨_,_,_,_,_,rfl,?_⟩;refine h.var D.st (λg X F4 B q6 h=> ?_) rfl D.size;exact ⟨λH=>(by cases H),λ_=>k (aa M (aa A B)) (Q3 (R.le (aa A B)) q6 (hG.le B)) h⟩
end
section
variable {g:Gr} {c:Int} {tx:ο} {D m:Dtr} {i:Nat} {n:Int}
theorem GdT.all (h:GdT g c tx D):Wu g c=nZ/\Yj g D=nZ/\∀x∈xP D,ye g (wP c) x=nZ/\Fw x=nZ:=by
 have e:=h.e;unfold Xy at e;split at e
 ·rename_i A;split at e
  ·rename_i r;unfold qS at r;rw [Vv,Vq] at r;exact ⟨A,r.1,λx w=>by have:=r.2 x w;rwa [Vv] at this⟩
  ·cases e
 ·cases e
theorem Hk (r:bP D i=mB m) {x:Dtr} (h:x∈xP m):x∈xP D:=by obtain ⟨a,b,e,_⟩:=sX D i m r;rw [e];simp [h]
theorem GdT.part (h:GdT g c tx D) (r:bP D i=mB m) (E:OkG {g with start:=n}) (G:Yj {g with start:=n} m=nZ):GdT {g with start:=n} c tx m:=by
 obtain ⟨C,_,H⟩:=h.all;have A:=h.l;have I:=h.n;have F:=sub_le r;refine ⟨h.f.sub r,by omega,?_,?_⟩
 ·unfold Xy;have B:Wu {g with start:=n} c=nZ:=by unfold Wu at C ⊢;rw [Vv] at C ⊢;exact ⟨ε (qC.2 E),C.2⟩
  rw [Χ B,Χ];unfold qS;rw [G,V8,Vq];intro x w;obtain ⟨a,b⟩:=H x (Hk r w);rw [Vv];exact ⟨a,b⟩
 ·unfold XT at A ⊢;rw [Vq] at A ⊢;exact λx w=>A x (Hk r w)
end
section
variable {F:PH} {v:Γ} {x:Rw} {j at_:Nat} {L N:Δ}
theorem Q5 {n:Nat} (h:at_<65536) (g:0<n):tK (i64.wrap (at_:Int)) (n:Int)=((at_ % n:Nat):Int):=by rw [aL (by omega),Xc (by omega)];rfl
theorem qhu (hT:Tab F) (hx:InV F v x j L N) (ha:at_<65536):ν 8 #[oc v,tJ .u16 (at_:Int)] F (RT F):=by
 refine cQ8 ?_;unfold ZZ;refine Fp hT hx (au _) λ{G F' k' b6 c w tx t m0 ws} lF A h=> ?_;generalize zk tx ws m0=D at A;generalize aT (xW x)=g at A;have b2:=A.c8;have R:=A.len;have a6:=gr D;rw [Q5 ha (by omega)];have hi:at_ % t.len<szN D:=by rw [<- R];exact VU _ (by omega)
 generalize at_ % t.len=i at hi;obtain ⟨m,I⟩:=gR hi;refine ⟨by omega,A.qa7 h.le I λb4 a1=>⟨_,aF a1 rfl,λ_=>⟨rfl,aa lF h.le⟩,λa8=> ?_⟩⟩;obtain ⟨C,M,to,K,p,rfl,hp,_,_⟩:=A.prod I (by omega);obtain ⟨p0,p1,p2⟩:=bG hp;have hv:=A.gv.size;refine ⟨w,hv,A.row h.le,?_⟩;refine h.run (P:=λr U=>∃s,r=sj #[nV s,vi 0]/\RL U s (vq (.nd C M to K))) (qhw A.tab A.gv A.gd A.td.f A.td.n A.rl I) λr G1 F1 Y J h=> ?_;obtain ⟨su,rfl,hu⟩:=Y;have a5:=A.gv;obtain ⟨Z,n,tk,s,W,lv,f,rfl,E⟩:=A.gv;have ep:=E.p.len;have a0:=J _ _ A.q;refine ⟨su,0,rfl,_,hv,A.row (aa J h.le),?_⟩;refine h.new λa9 F2 h=>h.put0 (w':=g.arr Z n tk s W lv f) hv rfl a5.st λF3 h=> ?_;refine ⟨W,ld (h.le _ _ a0) rfl,A.qa7 (aa J h.le) I λb1 a4=>⟨_,aF a4 rfl,?_⟩⟩;refine u9 (E.p.le J) (by decide) p0 (by show C<_;omega) λa7 cc q hq V hc=> ?_;have hq:g.qa0[C.toNat]? =mB q:=hq;rw [p2] at hq;cases hq;obtain ⟨rr,n2,l9,rfl,_⟩:=hc;refine ⟨p.left,aN (aO h.le V) (i:=1) rfl,?_⟩;refine h.set0 (w':={g with start:=p.left}.arr Z n tk s W lv f) (vp rfl) rfl λF4 h=> ?_;refine ⟨_,hv,A.row (aa J h.le),?_⟩;refine h.run (P:=λr U=>∃s:Sl,r=sj #[s.v,vi 0]/\RL U s (yL (vH g) (vZ tx) (.nd C M to K))) ((A.le J).exports I) λr G2 F5 Y l2 h=> ?_;obtain ⟨sa,rfl,a2⟩:=Y;have B:=aa J l2;refine ⟨sa,0,rfl,_,rfl,h.whole0,?_⟩;have H:=(fK _ _ A.gd.ok.ok.qa0 p (wh p2)).1.1;have X:GdG {g with start:=p.left} k':=Hb H.1 (H.2.1 rfl) A.gd.ok A.gd.sz A.ac
 have O:GdT {g with start:=p.left} (c:Int) tx (.nd C M to K):=A.td.part I X.ok.ok (by
  unfold Yj;dsimp only;rw [show V5 {g with start:=p.left} C=mB p from hp]
  exact ε rfl)
 have hE:=lL (g:={g with start:=p.left}) (i:=0) (A.tab.le B) (v:={g with start:=p.left}.arr Z n tk s W lv f) ⟨Z,n,tk,s,W,lv,f,rfl,(E.le B).c,(E.le B).n,(E.le B).t,(E.le B).s,(E.le B).p,(E.le B).l,(E.le B).f⟩ X O.f O.n (hu.le l2) (c:=(c:Int)) (tx:=tx) (by omega) (by omega);have hA:exA {g with start:=p.left} (c:Int) tx (.nd C M to K) 0=(yL (vH g) (vZ tx) (.nd C M to K),0):=by unfold exA;rw [Υ (μ O.op),Χ (by decide),show pc 0=0 from rfl,dT];rfl
 rw [hA] at hE;refine h.run (P:=λr U=>∃s:Sl,r=sj #[s.v,vi 0]/\RL U s (yL (vH g) (vZ tx) (.nd C M to K))) hE λr G3 F6 Y l3 h=> ?_;obtain ⟨sb,rfl,a3⟩:=Y;have b0:=vo (sp:=vH g) (tx:=vZ tx) (.nd C M to K);have b3:=sub_le I;have b5:=A.n;refine ⟨sb,0,rfl,λ_=>⟨λ_=>⟨λ_=>⟨λ_=> ?_,λQ=>absurd rfl Q⟩,λQ=>absurd rfl Q⟩,λQ=>absurd rfl Q⟩,λQ=>(by cases Q)⟩;refine h.runv (v:=oY nZ) ((fI (a2.le l3) a3 (by omega)).mono λr F' ⟨h1,h2⟩=>⟨by rw [h1,ε rfl],by rw [h2];exact au _⟩) λG4 F7 l4 h=>⟨_,rfl,rfl,aa lF (aa B (aa l3 (aa l4 h.le)))⟩
end
end
