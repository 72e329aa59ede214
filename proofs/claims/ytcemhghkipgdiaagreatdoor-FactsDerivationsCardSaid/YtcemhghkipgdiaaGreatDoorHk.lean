/-
  Slices that grow, as parts; copies of lists. Printed in part by a program (mkHk.py).
-/
import Derived.Test.YtcemhghkipgdiaaGreatDoorHg
namespace Go.Proofs.YtcemhghkipgdiaaGreatDoor
open Go Go.Proofs.Tryz
set_option maxRecDepth 10000
def fJ (g:Gr) (kd:Tk->Bool) (l:Φ):Prop:=l≠[]/\(∀n∈l,0<=n/\∃t,g.toks[n.toNat]? =some t/\kd t=true)/\∀(i:Nat) (x y:Int),l[i]? =some x->l[i+1]? =some y->x<y
open Classical in
theorem iY {F:PH} {v:Γ} {g:Gr} (hg:GV F v g) {sl:Sl} {l:Φ} (hl:RL F sl l) (hll:l.length<=1000000000) {k:Nat} {fst cap:Γ} (hk:aB prog k=true) (kd:Tk->Bool)
  (hkd:∀t c F1,F.le F1->Mem.rep F1 t c->aj prog k (fst++([Value.agg c]).toArray++cap) F1 λr F'=>r=.bool (kd t)/\F1.le F'):
  aj prog 153 #[.agg v,sl.v,.func (.func k) fst cap] F λr F'=>r=.bool (decide (fJ g kd l))/\F.le F':=by
 obtain ⟨c,n,t,s,p,lv,f,rfl,hs⟩:=hg;have et:=hs.t.len (by decide);have el:=hl.len (by decide);refine Nv ?_;unfold Je;refine fresh λb1 F1 l1 q1 _=> ?_;replace hs:=hs.le l1;replace hl:=hl.le l1;have no:∀{F':PH},F1.le F'->¬fJ g kd l->(Value.bool false=.bool (decide (fJ g kd l))/\F.le F'):=λ{F'} l h=>⟨by rw [decide_eq_false h],aa l1 l⟩;refine bD (uw · sl (.func (.func k) fst cap) b1 _) l.length (λj F'=>F1.le F'/\(∀n∈l.take j,0<=n/\∃t,g.toks[n.toNat]? =some t/\kd t=true)/\∀(i:Nat) (x y:Int),i+1<j->l[i]? =some x->l[i+1]? =some y->x<y)
  ⟨aq _,by simp,λi x y h=>by omega⟩ ?_
 rintro j F2 N hj ⟨l2,i1,i2⟩ next;unfold uw;refine ⟨λhlt=> ?_,λhge=> ?_⟩
 ·have hlt:j<l.length:=by omega
  refine ixc (hl.le l2) (by decide) (by omega) (by omega) λa cc x hx hr hc=> ?_;rw [N5] at hx hr;rw [show cc= #[vi x] from hc] at hr;have hxm:x∈l:=TU hx;have p1:=l2 _ _ q1;have noR:¬(0<=x/\x<g.toks.length)->(Value.bool false=.bool (decide (fJ g kd l))/\F.le F2):=λh=>no l2 λhp=>by obtain ⟨h0,t',ht,_⟩:=hp.2.1 x hxm;have:=(N6.1 ht).1;exact h ⟨h0,by omega⟩
  refine ⟨_,aS hr rfl,λh=>noR (by omega),λx0=>⟨_,ld p1 rfl,λh=>noR (by omega),λx1=> ?_⟩⟩;have body:(∀y,0<j->l[j - 1]? =some y->y<x)->∃v_41:Sl,F2.cell (Addr.mk b1 3 none)=some (Sl.v v_41)/\
   ∃a43_:Addr,v_41.base=some a43_/\0<=x/\x<(v_41.len:Int)/\
   ∃v_44:Γ,v_44.size=7/\F2.row (Addr.add a43_ (Int.toNat x*7)) v_44/\
   ∃(k45:Nat) (fst45 cap45:Γ),Value.func (.func k) fst cap=.func (.func k45) fst45 cap45/\aB prog k45=true/\aj prog k45 (fst45++([(.agg v_44)]).toArray++cap45) F2 λv F'=>∃v_45:Bool,v=(.bool v_45)/\
   (((!v_45)=true->(Value.bool false=.bool (decide (fJ g kd l))/\F.le F'))/\
   ((!v_45)=false->oM N sl (.func (.func k) fst cap) b1 (j:Int) (λr F'=>r=.bool (decide (fJ g kd l))/\F.le F') F')):=λhprev=>by
   refine ⟨_,ld p1 rfl,ixc (hs.t.le l2) (by decide) (by omega) (by omega) λa cc y hy hr hc=>⟨cc,Mem.len hc,hr,k,fst,cap,rfl,hk,?_⟩⟩;refine (hkd y cc F2 (aa l1 l2) hc).mono ?_;rintro _ F3 ⟨rfl,l3⟩;refine ⟨_,rfl,λh=>no (aa l2 l3) λhp=> ?_,λh=> ?_⟩
   ·obtain ⟨h0,t',ht,hk'⟩:=hp.2.1 x hxm;rw [hy] at ht;cases ht;rw [hk'] at h;cases h
   ·unfold oM;rw [aH hlt (by omega)];refine next _ hlt ⟨aa l2 l3,λm hm=> ?_,λi u w hi hu hw=> ?_⟩
    ·rw [bE hx] at hm;rcases TR.1 hm with hm|hm
     ·exact i1 m hm
     ·rw [TO.1 hm];exact ⟨by omega,y,hy,by simpa using h⟩
    ·by_cases e:i+1<j
     ·exact i2 i u w e hu hw
     ·have e:j=i+1:=by omega
      subst e;rw [hx] at hw;cases hw;exact hprev u (by omega) hu
  refine ⟨λhj0=> ?_,λhj0=>body λy h=>by omega⟩;have hj0:0<j:=by omega
  have ew:IntKind.i64.wrap ((j:Int) - 1)=((j - 1:Nat):Int):=by rw [aP (by omega) (by omega)];omega
  rw [ew];refine ixc (hl.le l2) (by decide) (by omega) (by omega) λa cc y hy hr hc=> ?_;rw [N5] at hy hr;rw [show cc= #[vi y] from hc] at hr;refine ⟨_,aS (by rw [N5];exact hr) rfl,λh=>no l2 λhp=> ?_,λh=>body λz _ hz=> ?_⟩
  ·have:=hp.2.2 (j - 1) y x hy (by rw [show j - 1+1=j by omega];exact hx);omega
  ·rw [hy] at hz;cases hz;omega
 ·have e:j=l.length:=by omega
  subst e;rw [T2] at i1;unfold At;refine ⟨?_,aa l1 l2⟩;congr 1;rw [TW,decide_eq_true_eq,decide_eq_true_eq];constructor
  ·intro h;refine ⟨λe=>by rw [e] at el;simp at el;omega,i1,λi x y hx hy=>i2 i x y ?_ hx hy⟩;exact (N6.1 hy).1
  ·intro h;have:l.length≠0:=λe=>h.1 (T4 e);omega
def nH (g:Gr) (x:Fi):Prop:=0<=x.par/\0<=x.ch/\0<=x.pos/\∃p q,g.prods[x.par.toNat]? =some p/\g.prods[x.ch.toNat]? =some q/\p.right[x.pos.toNat]? =some ⟨false,q.left⟩
open Classical in
theorem Cj {F:PH} {v w:Γ} {g:Gr} {x:Fi} (hg:GV F v g) (hx:Mem.rep F x w):aj prog 152 #[.agg v,.agg w] F λr F'=>r=.bool (decide (nH g x))/\F.le F':=by
 obtain ⟨c,n,t,s,p,lv,f,rfl,hs⟩:=hg;obtain ⟨tt,nn,rfl,_,_⟩:=hx;have ep:=hs.p.len (by decide);refine Nu ?_;unfold Jd;refine fresh λb2 F1 l1 q1 _=> ?_;refine fresh λb3 F2 l2 q2 _=> ?_;replace q1:=l2 _ _ q1;replace l1:=aa l1 l2;have hp:=hs.p.le l1;have no:¬nH g x->(Value.bool false=.bool (decide (nH g x))/\F.le F2):=λh=>⟨by rw [decide_eq_false h],l1⟩;have noR:¬(x.par<g.prods.length/\x.ch<g.prods.length)->¬nH g x:=λh hq=>by obtain ⟨_,_,_,p',q',hp',hq',_⟩:=hq;have:=(N6.1 hp').1;have:=(N6.1 hq').1;exact h (by omega)
 refine ⟨_,ld q2 rfl,λh=>no λhq=>by have:=hq.1;omega,λk1=>⟨_,ld q2 rfl,_,ld q1 rfl,λh=>no (noR (by omega)),λk2=>⟨_,ld q2 rfl,λh=>no λhq=>by have:=hq.2.1;omega,λk3=>⟨_,ld q2 rfl,_,ld q1 rfl,λh=>no (noR (by omega)),λk4=>⟨_,ld q1 rfl,_,ld q2 rfl,?_⟩⟩⟩⟩⟩;refine ixc hp (by decide) (by omega) (by omega) λa cc y hy hr hc=> ?_;obtain ⟨rr,n2,l2',rfl,h1,_,_⟩:=hc;have er:=h1.len (by decide);have noA:¬x.pos<y.right.length->¬nH g x:=λh hq=>by obtain ⟨_,_,_,p',q',hp',hq',hs'⟩:=hq;rw [hy] at hp';cases hp';have:=(N6.1 hs').1;omega
 refine ⟨_,bQ hr rfl,_,ld q2 rfl,λk5=>⟨_,ld q2 rfl,λk6=>⟨_,ld q2 rfl,?_⟩,λk6=>no (noA (by omega))⟩,λk5=>no λhq=>k5 hq.2.2.1⟩;refine ixc h1 (by decide) (by omega) (by omega) λa cc z hz hr hc=> ?_;rw [show cc=z.arr from hc] at hr;refine ⟨_,rfl,hr,_,ld q1 rfl,_,ld q2 rfl,ixc hp (by decide) (by omega) (by omega) λa cc u hu hr hc=> ?_⟩;obtain ⟨r3,n3,l3',rfl,_,_,_⟩:=hc;refine ⟨_,bQ hr rfl,_,λF=>M5 z ⟨false,u.left⟩ F,?_,l1⟩;congr 1;rw [TW,decide_eq_true_eq,decide_eq_true_eq];constructor
 ·rintro rfl;exact ⟨by omega,by omega,by omega,y,u,hy,hu,hz⟩
 ·rintro ⟨_,_,_,p',q',hp',hq',hs'⟩;rw [hy] at hp';cases hp';rw [hu] at hq';cases hq';rw [hz] at hs';exact Ug hs'
def cd (g:Gr) (x:Fi):Prop:=iK x.cond g.conds.length/\
  (((x.k=1\/x.k=2)/\nH g x/\x.left=0/\x.tok=0/\x.toks=[])\/
   ((x.k=3\/x.k=4)/\(0<=x.left/\x.left<g.nons.length/\fJ g (λt=>decide (t.cls=0)) x.toks)/\x.par=0/\x.pos=0/\x.ch=0/\x.tok=0)\/
   (x.k=5/\(fJ g (λt=> !decide (t.lit=emp)) x.toks/\0<=x.tok/\∃t,g.toks[x.tok.toNat]? =some t/\t.cls=0/\t.lit=emp)/\x.par=0/\x.pos=0/\x.ch=0/\x.left=0))
theorem M0:aB prog 150=true:=by kernel_rfl
theorem M1:aB prog 151=true:=by kernel_rfl
theorem jO {F:PH} {t:Tk} {c:Γ} (h:Mem.rep F t c):aj prog 150 #[.agg c] F λr F'=>r=.bool (decide (t.cls=0))/\F.le F':=by obtain ⟨p,n,rfl,_,_⟩:=h;refine Nr ?_;unfold Jb;exact fresh λb F1 l1 q1 _=>⟨_,ld q1 rfl,rfl,l1⟩
theorem jP {F:PH} {t:Tk} {c:Γ} (h:Mem.rep F t c):aj prog 151 #[.agg c] F λr F'=>r=.bool (!decide (t.lit=emp))/\F.le F':=by obtain ⟨p,n,rfl,_,_⟩:=h;refine Nt ?_;unfold Jc;exact fresh λb F1 l1 q1 _=>⟨_,ld q1 rfl,by rw [pZ],l1⟩
abbrev pR (a0 a1 a2 a3 a4 a5:Int) (s6 s7:Sl) (a8:Int):Γ:= #[vi a0,vi a1,vi a2,vi a3,vi a4,vi a5,s6.v,s7.v,vi a8]
open Classical in
theorem kP {F:PH} {v:Γ} {g:Gr} (hg:GV F v g) (hl:dQ g=false) (hz:Sz g):aj prog 94 #[.agg v] F λr F'=>r=vi (if ∀x∈g.fils,cd g x then 0 else 53)/\F.le F':=by
 obtain ⟨_,_,hlf,_,_,_,_⟩:=gF hl;have hg0:=hg;obtain ⟨c,n,t,s,p,lv,f,rfl,hs⟩:=hg;have ec:=hs.c.len (by decide);have et:=hs.t.len (by decide);have es:=hs.s.len (by decide);have ef:=hs.f.len (by decide);refine RM ?_;unfold Ni;refine fresh λb1 F1 l1 q1 _=> ?_;replace hs:=hs.le l1;replace hg0:=hg0.le l1;refine ⟨_,ld q1 rfl,?_⟩;refine bD (ym · b1 f _) g.fils.length (λk F'=>∃G,F1.le G/\St G F' []/\∀x∈g.fils.take k,cd g x) ⟨F1,aq _,.start _,by simp⟩ ?_;rintro k F3 N hk ⟨G3,l3,h,hi⟩ next;unfold ym;refine ⟨λhlt=> ?_,λhge=> ?_⟩
 ·have hlt:k<g.fils.length:=by omega
  refine h.ix (hs.f.le l3) (by decide) (by omega) (by omega) λa cc x hx hr hc=> ?_;rw [N5] at hx;have hxm:x∈g.fils:=TU hx;have hxl:=hz.f x hxm;have hst:=Mem.st hc;have hc0:=hc;obtain ⟨tt,nn,rfl,h1,h2⟩:=hc;have ett:=h1.len (by decide);refine ⟨x.arr tt nn,rfl,hr,?_⟩;refine h.var hst λb6 G4 F4 l4 q6 h=> ?_;have bad:∀{F'},G3.le F'->¬cd g x->(vi 53=vi (if ∀x∈g.fils,cd g x then 0 else 53)/\F.le F'):=λ{F'} l hn=>⟨by rw [if_neg (λh=>hn (h x hxm))],aa l1 (aa l3 l)⟩;refine ⟨#[nn.v,vi x.cond.2],rfl,kq (h.le _ _ q6) rfl,_,ld (h.le _ _ (l4 _ _ (l3 _ _ q1))) rfl,?_⟩;dsimp only;rw [ec];refine h.runv (gE (d:=x.cond) (DV.mk (h2.le l4))) λG5 F5 l5 h=>⟨_,rfl,_,rfl,ac (h.le _ _ (l5 _ _ q6)),?_⟩;have l35:=aa l4 l5;replace q6:=l5 _ _ q6;refine h.new λb8 F6 h=> ?_;refine h.put0 (w':=x.arr tt nn) rfl rfl hst λF7 h=> ?_;refine h.set0 (w':=pR 0 x.par x.pos x.ch x.left x.tok tt nn x.cond.2) (by simp) rfl λF8 h=> ?_;refine h.putR0 (w':=pR 0 x.par x.pos x.ch x.left x.tok tt Sl.nil 0) rfl (by simp [al]) (by simp) rfl λF9 h=> ?_;have j2:∀(fine:Bool) (a1 a2 a3 a4 a5:Int) (s6:Sl) G9 F9,G3.le G9->St G9 F9 [pt b8 (.cells (pR 0 a1 a2 a3 a4 a5 s6 Sl.nil 0) 156)]->
    ((fine=true/\a1=0/\a2=0/\a3=0/\a4=0/\a5=0/\s6.len=0)↔cd g x)->
    fk N b1 b8 f (k:Int) fine (λr F'=>r=vi (if ∀x∈g.fils,cd g x then 0 else 53)/\F.le F') F9:=λfine a1 a2 a3 a4 a5 s6 G9 F9 l9 h hiff=>by
   unfold fk;have l:=aa l9 h.le
   refine ⟨λhb=>bad l λhn=>(by rw [(hiff.2 hn).1] at hb;cases hb),λhb=>⟨_,h.ld0 rfl,λe=>bad l λhn=>e (hiff.2 hn).2.1,λe1=>⟨_,h.ld0 rfl,λe=>bad l λhn=>e (hiff.2 hn).2.2.1,λe2=>⟨_,h.ld0 rfl,λe=>bad l λhn=>e (hiff.2 hn).2.2.2.1,λe3=>
    ⟨_,h.ld0 rfl,λe=>bad l λhn=>e (hiff.2 hn).2.2.2.2.1,λe4=>⟨_,h.ld0 rfl,λe=>bad l λhn=>e (hiff.2 hn).2.2.2.2.2.1,λe5=>⟨_,h.ld0 rfl,λe=>bad l λhn=>by have:=(hiff.2 hn).2.2.2.2.2.2;omega,λe6=> ?_⟩⟩⟩⟩⟩⟩⟩
   rw [aH hlt (by omega)];refine next _ hlt ⟨G9,aa l3 l9,h.tail,λy hy=> ?_⟩;rw [bE hx] at hy;rcases TR.1 hy with hy|hy
   ·exact hi y hy
   ·rw [TO.1 hy];exact hiff.1 ⟨by simpa using hb,Classical.not_not.1 e1,Classical.not_not.1 e2,Classical.not_not.1 e3,Classical.not_not.1 e4,Classical.not_not.1 e5,by omega⟩
  have hF:=cH (d:=x.cond) (n:=g.conds.length);generalize pS x.cond g.conds.length=fit at*;have nil6:tt.len=0↔x.toks=[]:=by rw [ett];exact UR
  refine ⟨_,ld (h.le _ _ q6) rfl,?_⟩;have j4:∀(b:Bool),(b=true↔x.k=3\/x.k=4)->¬(x.k=1\/x.k=2)->ur N b1 b6 fit b8 f (k:Int) x.k b (λr F'=>r=vi (if ∀x∈g.fils,cd g x then 0 else 53)/\F.le F') F9:=λb hb hn12=>by
   unfold ur;refine ⟨λhbt=> ?_,λhbf=>⟨λk5=> ?_,λk5=> ?_⟩⟩
   ·have hk:=hb.1 hbt;refine h.set0 (w':=pR 0 x.par x.pos x.ch 0 x.tok tt Sl.nil 0) (by simp) rfl λF10 h=> ?_;refine h.set0 (w':=pR 0 x.par x.pos x.ch 0 x.tok Sl.nil Sl.nil 0) (by simp) rfl λF11 h=> ?_;have bad':¬(0<=x.left/\x.left<g.nons.length/\fJ g (λt=>decide (t.cls=0)) x.toks)->¬cd g x:=λhn hok=>by
     rcases hok.2 with h'|h'|h'
     ·omega
     ·exact hn h'.2.1
     ·omega
    refine ⟨λhft=>⟨_,ld (h.le _ _ q6) rfl,λk1=>⟨_,ld (h.le _ _ q6) rfl,_,ld (h.le _ _ (l35 _ _ (l3 _ _ q1))) rfl,λk2=>⟨_,rfl,ac (h.le _ _ (l35 _ _ (l3 _ _ q1))),_,ld (h.le _ _ q6) rfl,?_⟩,λk2=> ?_⟩,λk1=> ?_⟩,λhff=> ?_⟩
    ·refine h.runv (iY (hg0.le (aa l3 l35)) (h1.le l35) hxl M0 (λt=>decide (t.cls=0)) λt c F1 _ hc=>jO hc) λG10 F10 l10 h=>⟨_,rfl,?_⟩;refine j2 _ _ _ _ _ _ _ G10 F10 (aa l35 l10) h ?_;rw [decide_eq_true_eq];constructor
     ·rintro ⟨ha,e1,e2,e3,_,e5,_⟩;exact ⟨hF.1 hft,.inr (.inl ⟨hk,⟨k1,by omega,ha⟩,e1,e2,e3,e5⟩)⟩
     ·intro hok;rcases hok.2 with h'|h'|h'
      ·omega
      ·exact ⟨h'.2.1.2.2,h'.2.2.1,h'.2.2.2.1,h'.2.2.2.2.1,rfl,h'.2.2.2.2.2,rfl⟩
      ·omega
    ·exact j2 _ _ _ _ _ _ _ G5 F11 l35 h ⟨λh=>(by cases h.1),λhok=>absurd hok (bad' λh=>k2 (by omega))⟩
    ·exact j2 _ _ _ _ _ _ _ G5 F11 l35 h ⟨λh=>(by cases h.1),λhok=>absurd hok (bad' λh=>k1 h.1)⟩
    ·exact j2 _ _ _ _ _ _ _ G5 F11 l35 h ⟨λh=>(by cases h.1),λhok=>by rw [hF.2 hok.1] at hff;cases hff⟩
   ·refine h.set0 (w':=pR 0 x.par x.pos x.ch x.left 0 tt Sl.nil 0) (by simp) rfl λF10 h=> ?_;refine h.set0 (w':=pR 0 x.par x.pos x.ch x.left 0 Sl.nil Sl.nil 0) (by simp) rfl λF11 h=> ?_;have bad':¬(fJ g (λt=> !decide (t.lit=emp)) x.toks/\0<=x.tok/\∃t,g.toks[x.tok.toNat]? =some t/\t.cls=0/\t.lit=emp)->¬cd g x:=λhn hok=>by
     rcases hok.2 with h'|h'|h'
     ·omega
     ·omega
     ·exact hn h'.2.1
    have j5f:∀G10 F10,G3.le G10->St G10 F10 [pt b8 (.cells (pR 0 x.par x.pos x.ch x.left 0 Sl.nil Sl.nil 0) 156)]->¬cd g x->j5 N b1 b6 b8 f (k:Int) false (λr F'=>r=vi (if ∀x∈g.fils,cd g x then 0 else 53)/\F.le F') F10:=λG10 F10 l10 h hn=>by unfold j5;exact ⟨λh=>(by cases h),λ_=>j2 _ _ _ _ _ _ _ G10 F10 l10 h ⟨λh=>(by cases h.1),λhok=>absurd hok hn⟩⟩
    refine ⟨λhft=>⟨_,rfl,ac (h.le _ _ (l35 _ _ (l3 _ _ q1))),_,ld (h.le _ _ q6) rfl,?_⟩,λhff=>j5f G5 F11 l35 h λhok=>by rw [hF.2 hok.1] at hff;cases hff⟩;refine h.runv (iY (hg0.le (aa l3 l35)) (h1.le l35) hxl M1 (λt=> !decide (t.lit=emp)) λt c F1 _ hc=>jP hc) λG10 F10 l10 h=>⟨_,rfl,λha=> ?_,λha=>j5f G10 F10 (aa l35 l10) h (bad' λh=>of_decide_eq_false ha h.1)⟩;have ha:=of_decide_eq_true ha;replace l35:=aa l35 l10;replace q6:=l10 _ _ q6;have p1:=l35 _ _ (l3 _ _ q1);refine ⟨_,ld (h.le _ _ q6) rfl,λk1=>⟨_,ld (h.le _ _ q6) rfl,_,ld (h.le _ _ p1) rfl,?_⟩,λk1=>j5f G10 F10 l35 h (bad' λh=>k1 h.2.1)⟩;by_cases k2:x.tok<(t.len:Int)
    ·dsimp only;rw [decide_eq_true k2];unfold j5;refine ⟨λ_=>⟨_,ld (h.le _ _ p1) rfl,_,ld (h.le _ _ q6) rfl,h.ix (hs.t.le (aa l3 l35)) (by decide) k1 k2 λa cc y hy hr hc=>⟨cc,Mem.len hc,hr,?_⟩⟩,λh=>(by cases h)⟩;refine h.runv (jO hc) λG11 F11 l11 h=>⟨_,rfl,λk3=>⟨_,ld (h.le _ _ (l11 _ _ p1)) rfl,_,ld (h.le _ _ (l11 _ _ q6)) rfl,h.ix (hs.t.le (aa l3 (aa l35 l11))) (by decide) k1 k2 λa cc z hz hr hc=>⟨cc,Mem.len hc,hr,?_⟩⟩,λk3=> ?_⟩
     ·rw [hy] at hz;cases hz;refine h.runv (jP hc) λG12 F12 l12 h=>⟨_,rfl,?_⟩;refine j2 _ _ _ _ _ _ _ G12 F12 (aa l35 (aa l11 l12)) h ?_;rw [Bool.not_not,decide_eq_true_eq];constructor
      ·rintro ⟨hlit,e1,e2,e3,e4,_⟩;exact ⟨hF.1 hft,.inr (.inr ⟨k5,⟨ha,k1,y,hy,of_decide_eq_true k3,hlit⟩,e1,e2,e3,e4⟩)⟩
      ·intro hok;rcases hok.2 with h'|h'|h'
       ·omega
       ·omega
       ·obtain ⟨_,_,u,hu,_,hul⟩:=h'.2.1;rw [hy] at hu;cases hu;exact ⟨hul,h'.2.2.1,h'.2.2.2.1,h'.2.2.2.2.1,h'.2.2.2.2.2,rfl,rfl⟩
     ·refine j2 _ _ _ _ _ _ _ G11 F11 (aa l35 l11) h ⟨λh=>(by cases h.1),λhok=>absurd hok (bad' λh=> ?_)⟩;obtain ⟨_,_,u,hu,hul,_⟩:=h;rw [hy] at hu;cases hu;exact of_decide_eq_false k3 hul
    ·dsimp only;rw [decide_eq_false k2];refine j5f G10 F10 l35 h (bad' λh=> ?_);obtain ⟨_,_,u,hu,_,_⟩:=h;have:=(N6.1 hu).1;omega
   ·refine j2 _ _ _ _ _ _ _ G5 F9 l35 h ⟨λh=>(by cases h.1),λhok=> ?_⟩;have:¬(x.k=3\/x.k=4):=λh=>by rw [hb.2 h] at hbf;cases hbf
    rcases hok.2 with h'|h'|h'<;>omega
  have j3:∀(b:Bool),(b=true↔x.k=1\/x.k=2)->ut N b1 b6 fit b8 f (k:Int) x.k b (λr F'=>r=vi (if ∀x∈g.fils,cd g x then 0 else 53)/\F.le F') F9:=λb hb=>by
   unfold ut;refine ⟨λhbt=> ?_,λhbf=> ?_⟩
   ·have hk:=hb.1 hbt;refine h.set0 (w':=pR 0 0 x.pos x.ch x.left x.tok tt Sl.nil 0) (by simp) rfl λF10 h=> ?_;refine h.set0 (w':=pR 0 0 0 x.ch x.left x.tok tt Sl.nil 0) (by simp) rfl λF11 h=> ?_;refine h.set0 (w':=pR 0 0 0 0 x.left x.tok tt Sl.nil 0) (by simp) rfl λF12 h=> ?_;refine ⟨λhft=>⟨_,rfl,ac (h.le _ _ (l35 _ _ (l3 _ _ q1))),_,rfl,ac (h.le _ _ q6),?_⟩,λhff=> ?_⟩
    ·refine h.runv (Cj (hg0.le (aa l3 l35)) (Mem.le l35 hc0)) λG10 F10 l10 h=>⟨_,rfl,?_⟩;refine j2 _ _ _ _ _ _ _ G10 F10 (aa l35 l10) h ?_;rw [decide_eq_true_eq];constructor
     ·rintro ⟨ha,_,_,_,e4,e5,e6⟩;exact ⟨hF.1 hft,.inl ⟨hk,ha,e4,e5,nil6.1 e6⟩⟩
     ·intro hok;rcases hok.2 with h'|h'|h'
      ·exact ⟨h'.2.1,rfl,rfl,rfl,h'.2.2.1,h'.2.2.2.1,nil6.2 h'.2.2.2.2⟩
      ·omega
      ·omega
    ·exact j2 _ _ _ _ _ _ _ G5 F12 l35 h ⟨λh=>(by cases h.1),λhok=>by rw [hF.2 hok.1] at hff;cases hff⟩
   ·have hn:¬(x.k=1\/x.k=2):=λh=>by rw [hb.2 h] at hbf;cases hbf
    exact ⟨λe=>j4 _ (by rw [decide_eq_true_eq];omega) hn,λe=>j4 _ (by rw [decide_eq_true_eq];omega) hn⟩
  exact ⟨λe=>j3 _ (by rw [decide_eq_true_eq];omega),λe=>j3 _ (by rw [decide_eq_true_eq];omega)⟩
 ·have e:k=g.fils.length:=by omega
  subst e;rw [T2] at hi;unfold Dy;exact ⟨by rw [if_pos hi],aa l1 (aa l3 h.le)⟩
def Dp (n:Nat) (done:List ByteArray) (t:Tk):Prop:=t.name≠emp/\t.name ∉ done/\0<=t.cls/\t.cls<=2/\iK t.cond n/\(t.lit≠emp->t.smp=emp/\t.pat=[])/\
 (t.lit=emp->iO t.pat=0/\(t.cls=0->t.smp≠emp/\LgL t.pat (bs t.smp))/\(t.cls≠0->t.smp=emp))
def fK (n:Nat) (done:List ByteArray):List Tk->Prop
 |[]=>True
 |t::r=>Dp n done t/\fK n (done++[t.name]) r
open Classical in
theorem mE {F:PH} {v:Γ} {g:Gr} (hT:Tab F) (hg:GV F v g) (hl:dQ g=false) (hz:Sz g):aj prog 90 #[.agg v] F λr F'=>r=vi (if fK g.conds.length [] g.toks then 0 else 51)/\F.le F':=by
 obtain ⟨_,hlt',_⟩:=gF hl;obtain ⟨c,n,t,s,p,lv,f,rfl,hs⟩:=hg;have ec:=hs.c.len (by decide);have et:=hs.t.len (by decide);refine RB ?_;unfold Nc;refine fresh λb1 F1 l1 q1 _=> ?_;replace hs:=hs.le l1;replace hT:=hT.le l1;refine (gV F1).mono ?_;rintro _ F2 ⟨G2,bn,m,rfl,l2,hcn,h⟩;refine ⟨_,rfl,_,ld (h.le _ _ (l2 _ _ q1)) rfl,?_⟩;refine bD (yh · b1 (wB bn) t _) g.toks.length (λk F'=>∃G,G2.le G/\St G F' [bF m ((g.toks.take k).map Tk.name).reverse]/\(fK g.conds.length [] g.toks↔fK g.conds.length ((g.toks.take k).map Tk.name) (g.toks.drop k)))
  ⟨G2,aq _,h,by simp⟩ ?_
 rintro k F3 N hk ⟨G3,l3,h,hE⟩ next;have l13:=aa l2 l3;unfold yh;refine ⟨λhlt=> ?_,λhge=> ?_⟩
 ·have hlt:k<g.toks.length:=by omega
  refine h.ix (hs.t.le l13) (by decide) (by omega) (by omega) λa cc x hx hr hc=> ?_;rw [N5] at hx;have hxm:x∈g.toks:=TU hx;have hxz:=hz.t x hxm;rw [cI hx,fK] at hE;have hst:=Mem.st hc;obtain ⟨pp,nn,rfl,h1,h2⟩:=hc;have epp:=h1.len (by decide);refine ⟨x.arr pp nn,rfl,hr,?_⟩;refine h.var hst λb5 G4 F4 l4 q5 h=> ?_;have bad:∀{F'},G3.le F'->¬Dp g.conds.length ((g.toks.take k).map Tk.name) x->(vi 51=vi (if fK g.conds.length [] g.toks then 0 else 51)/\F.le F'):=λ{F'} l hn=>⟨by rw [if_neg (λh=>hn (hE.1 h).1)],aa l1 (aa l13 l)⟩;refine ⟨_,ld (h.le _ _ q5) rfl,?_⟩;refine oJ h (aG (aa l3 l4) hcn) x.name λG5 F5 l5 h=>⟨_,rfl,λhb=>bad (aa l4 (aa l5 h.le)) λhn=> ?_,λhb=> ?_⟩
  ·rw [decide_eq_true ⟨hn.1,hn.2.1⟩] at hb;cases hb
  have hnm:x.name≠emp/\x.name ∉ (g.toks.take k).map Tk.name:=by simpa using hb
  have l35:=aa l4 l5;replace q5:=l5 _ _ q5;refine ⟨_,ld (h.le _ _ q5) rfl,λhb=>bad (aa l35 h.le) λhn=>by have:=hn.2.2.1;omega,λc0=>⟨_,ld (h.le _ _ q5) rfl,λhb=>bad (aa l35 h.le) λhn=>by have:=hn.2.2.2.1;omega,λc2=>⟨#[nn.v,vi x.cond.2],rfl,kq (h.le _ _ q5) rfl,_,ld (h.le _ _ (l35 _ _ (l13 _ _ q1))) rfl,?_⟩⟩⟩;dsimp only;rw [ec];refine h.runv (gE (d:=x.cond) (DV.mk (h2.le l35))) λG6 F6 l6 h=>⟨_,rfl,λhb=>bad (aa l35 (aa l6 h.le)) λhn=> ?_,λhb=> ?_⟩
  ·rw [cH.2 hn.2.2.2.2.1] at hb;cases hb
  have hfit:iK x.cond g.conds.length:=cH.1 (by simpa using hb);replace l35:=aa l35 l6;replace q5:=l6 _ _ q5;have e:(g.toks.take k).map Tk.name++[x.name]=(g.toks.take (k+1)).map Tk.name:=by rw [bE hx,Ui];rfl
  have j2:∀(fine:Bool) G9 F9,G3.le G9->St G9 F9 [bF m ((g.toks.take k).map Tk.name++[x.name]).reverse]->(fine=true↔Dp g.conds.length ((g.toks.take k).map Tk.name) x)->
    i7 N b1 (wB bn) t (k:Int) fine (λr F'=>r=vi (if fK g.conds.length [] g.toks then 0 else 51)/\F.le F') F9:=λfine G9 F9 l9 h hiff=>by
   unfold i7;refine ⟨λhb=>bad (aa l9 h.le) λhn=>(by rw [hiff.2 hn] at hb;cases hb),λhb=> ?_⟩;rw [aH hlt (by omega)];have hok:=hiff.1 (by simpa using hb);rw [e] at h hE;exact next _ hlt ⟨G9,aa l3 l9,h,hE.trans ⟨λh=>h.2,λh=>⟨hok,h⟩⟩⟩
  refine ⟨_,ld (h.le _ _ q5) rfl,_,ld (h.le _ _ q5) rfl,λhlit=> ?_,λhlit=> ?_⟩
  ·rw [pZ] at hlit;have hlit:x.lit≠emp:=by simpa using hlit
   rw [pZ];refine ⟨λhsm=>⟨_,ld (h.le _ _ q5) rfl,?_⟩,λhsm=> ?_⟩
   ·have hsm:=of_decide_eq_true hsm;refine j2 _ G6 F6 l35 h ?_;rw [decide_eq_true_eq];constructor
    ·intro h0;exact ⟨hnm.1,hnm.2,by omega,by omega,hfit,λ_=>⟨hsm,T4 (by omega)⟩,λh=>absurd h hlit⟩
    ·intro hok;rw [(hok.2.2.2.2.2.1 hlit).2] at epp;simp at epp;omega
   ·have hsm:=of_decide_eq_false hsm;exact j2 _ G6 F6 l35 h ⟨λh=>(by cases h),λhok=>absurd (hok.2.2.2.2.2.1 hlit).1 hsm⟩
  ·rw [pZ] at hlit;have hlit:x.lit=emp:=by simpa using hlit
   refine ⟨_,ld (h.le _ _ q5) rfl,?_⟩;refine h.runv (nS (RL.nds.1 (h1.le l35))) λG7 F7 l7 h=>⟨_,rfl,λhp=>j2 _ G7 F7 (aa l35 l7) h ⟨λh=>(by cases h),λhok=>absurd (hok.2.2.2.2.2.2 hlit).1 hp⟩,λhp=>⟨_,ld (h.le _ _ (l7 _ _ q5)) rfl,?_⟩⟩;have hp:=Classical.not_not.1 hp;replace l35:=aa l35 l7;replace q5:=l7 _ _ q5;have mk:((x.cls=0->x.smp≠emp/\LgL x.pat (bs x.smp))/\(x.cls≠0->x.smp=emp))->Dp g.conds.length ((g.toks.take k).map Tk.name) x:=λhm=>⟨hnm.1,hnm.2,by omega,by omega,hfit,λh=>absurd hlit h,λ_=>⟨hp,hm⟩⟩;rw [pZ];refine ⟨λhc0=>⟨λhsm=>⟨_,ld (h.le _ _ q5) rfl,_,ld (h.le _ _ q5) rfl,?_⟩,λhsm=> ?_⟩,λhc0=> ?_⟩
   ·have hsm:x.smp≠emp:=by simpa using hsm
    refine (h.call (se (hT.le (aa l13 l35)) (RL.nds.1 (h1.le l35)) x.smp (by omega))).mono ?_;rintro _ F8 ⟨G8,⟨⟨q,rfl,hq⟩,l8⟩,h⟩;refine ⟨_,rfl,j2 _ G8 F8 (aa l35 l8) h ?_⟩;rw [hq];exact ⟨λhm=>mk ⟨λ_=>⟨hsm,hm.2⟩,λh=>absurd hc0 h⟩,λhok=>⟨hp,((hok.2.2.2.2.2.2 hlit).2.1 hc0).2⟩⟩
   ·have hsm:x.smp=emp:=by simpa using hsm
    exact j2 _ G7 F7 l35 h ⟨λh=>(by cases h),λhok=>absurd hsm ((hok.2.2.2.2.2.2 hlit).2.1 hc0).1⟩
   ·refine j2 _ G7 F7 l35 h ?_;rw [decide_eq_true_eq];exact ⟨λhm=>mk ⟨λh=>absurd h hc0,λ_=>hm⟩,λhok=>(hok.2.2.2.2.2.2 hlit).2.2 hc0⟩
 ·have e:k=g.toks.length:=by omega
  subst e;rw [UI,fK] at hE;unfold Dt;exact ⟨by rw [if_pos (hE.2 trivial)],aa l1 (aa l13 h.le)⟩
open Classical in
noncomputable def un (g:Gr):Int:=
 if dQ g=true then 2 else if ¬nJ g then 54 else if ¬fK g.conds.length [] g.toks then 51 else if ¬iZ g then 50 else if eO g [] g.prods≠0 then eO g [] g.prods
 else if ¬eP g [] g.lvs then 53 else if ¬∀x∈g.fils,cd g x then 53 else 0
structure OkG (g:Gr):Prop where
 large:dQ g=false
 fam:nJ g
 toks:fK g.conds.length [] g.toks
 nons:iZ g
 prods:eO g [] g.prods=0
 lvs:eP g [] g.lvs
 fils:∀x∈g.fils,cd g x
theorem oI {g:Gr}:un g=0↔OkG g:=by
 unfold un;constructor
 ·intro h;split at h
  ·cases h
  ·rename_i h1;split at h
   ·cases h
   ·rename_i h2;split at h
    ·cases h
    ·rename_i h3;split at h
     ·cases h
     ·rename_i h4;split at h
      ·rename_i h5;exact absurd h h5
      ·rename_i h5;split at h
       ·cases h
       ·rename_i h6;split at h
        ·cases h
        ·rename_i h7;exact ⟨by simpa using h1,Classical.not_not.1 h2,Classical.not_not.1 h3,Classical.not_not.1 h4,Classical.not_not.1 h5,Classical.not_not.1 h6,Classical.not_not.1 h7⟩
 ·rintro ⟨h1,h2,h3,h4,h5,h6,h7⟩;rw [if_neg (by simp [h1]),if_neg (λh=>h h2),if_neg (λh=>h h3),if_neg (λh=>h h4),if_neg (λh=>h h5),if_neg (λh=>h h6),if_neg (λh=>h h7)]
theorem Ha:aB prog 89=true/\aB prog 90=true/\aB prog 91=true/\aB prog 92=true/\aB prog 93=true/\aB prog 94=true:=by refine ⟨?_,?_,?_,?_,?_,?_⟩<;>kernel_rfl
open Classical in
noncomputable def wx (g:Gr) (k:Nat):Int:=match k with
 |0=>if nJ g then 0 else 54
 |1=>if fK g.conds.length [] g.toks then 0 else 51
 |2=>if iZ g then 0 else 50
 |3=>eO g [] g.prods
 |4=>if eP g [] g.lvs then 0 else 53
 |_=>if ∀x∈g.fils,cd g x then 0 else 53
def Ao (k:Nat):Nat:=match k with
 |0=>89
 |1=>90
 |2=>91
 |3=>92
 |4=>93
 |_=>94
theorem Ck {F:PH} {v:Γ} {g:Gr} (hT:Tab F) (hg:GV F v g) (hl:dQ g=false) (hz:Sz g) (k:Nat):aB prog (Ao k)=true/\aj prog (Ao k) #[.agg v] F λr F'=>r=vi (wx g k)/\F.le F':=by
 obtain ⟨c1,c2,c3,c4,c5,c6⟩:=Ha;have hb:=gF hl
 match k with
 |0=>exact ⟨c1,mF hg hz hb.1⟩
 |1=>exact ⟨c2,mE hT hg hl hz⟩
 |2=>exact ⟨c3,pU hg hb.2.2.2.1⟩
 |3=>exact ⟨c4,ou hg hl⟩
 |4=>exact ⟨c5,mJ hg hl hz⟩
 |n+5=>exact ⟨c6,kP hg hl hz⟩
theorem nz0 {p:Prop} [Decidable p] {a:Int} (ha:a≠0) (h:(if p then 0 else a)=0):p:=by
 by_cases hp:p
 ·exact hp
 ·rw [if_neg hp] at h;exact absurd h ha
open Classical in
theorem nI {F:PH} {v:Γ} {g:Gr} (hT:Tab F) (hg:GV F v g) (hz:Sz g):aj prog 36 #[.agg v] F λr F'=>r=vi (un g)/\F.le F':=by
 refine Rv ?_;unfold M7;refine fresh λb1 F1 l1 q1 _=>⟨v,hg.size,ac q1,?_⟩;refine (yb (hg.le l1)).mono ?_;rintro _ F2 ⟨rfl,l2⟩;replace l1:=aa l1 l2;replace q1:=l2 _ _ q1;refine ⟨_,rfl,λhb=>⟨?_,l1⟩,λhb=> ?_⟩
 ·unfold un;rw [if_pos hb]
 refine fresh λb9 F3 l3 q9 _=> ?_;replace l1:=aa l1 l3;replace q1:=l3 _ _ q1;have hfin:∀k,k<6->(∀j,j<k->wx g j=0)->wx g k≠0->un g=wx g k:=λk hk hj hne=>by
  have s0:0<k->nJ g:=λh=>nz0 (a:=54) (by decide) (hj 0 h);have s1:1<k->fK g.conds.length [] g.toks:=λh=>nz0 (a:=51) (by decide) (hj 1 h);have s2:2<k->iZ g:=λh=>nz0 (a:=50) (by decide) (hj 2 h);have s3:3<k->eO g [] g.prods=0:=λh=>hj 3 h;have s4:4<k->eP g [] g.lvs:=λh=>nz0 (a:=53) (by decide) (hj 4 h);unfold un;rw [if_neg (by simp [hb])]
  match k,hk with
  |0,_=>have hn:¬nJ g:=λh=>hne (if_pos h);rw [if_pos hn];exact (if_neg hn).symm
  |1,_=>have hn:¬fK g.conds.length [] g.toks:=λh=>hne (if_pos h);rw [if_neg (λh=>h (s0 (by decide))),if_pos hn];exact (if_neg hn).symm
  |2,_=>have hn:¬iZ g:=λh=>hne (if_pos h);rw [if_neg (λh=>h (s0 (by decide))),if_neg (λh=>h (s1 (by decide))),if_pos hn];exact (if_neg hn).symm
  |3,_=>rw [if_neg (λh=>h (s0 (by decide))),if_neg (λh=>h (s1 (by decide))),if_neg (λh=>h (s2 (by decide))),if_pos (show eO g [] g.prods≠0 from hne)];rfl
  |4,_=>have hn:¬eP g [] g.lvs:=λh=>hne (if_pos h);rw [if_neg (λh=>h (s0 (by decide))),if_neg (λh=>h (s1 (by decide))),if_neg (λh=>h (s2 (by decide))),if_neg (λh=>h (s3 (by decide))),if_pos hn];exact (if_neg hn).symm
  |5,_=>have hn:¬∀x∈g.fils,cd g x:=λh=>hne (if_pos h);rw [if_neg (λh=>h (s0 (by decide))),if_neg (λh=>h (s1 (by decide))),if_neg (λh=>h (s2 (by decide))),if_neg (λh=>h (s3 (by decide))),if_neg (λh=>h (s4 (by decide))),if_pos hn];exact (if_neg hn).symm
 refine bD (yf · b1 b9 _) 6 (λk F'=>F3.le F'/\∀j,j<k->wx g j=0) ⟨aq _,λj h=>by omega⟩ ?_;rintro k F4 N hk ⟨l4,hi⟩ next;unfold yf;refine ⟨λhlt=> ?_,λhge=> ?_⟩
 ·have hlt:k<6:=by simp only at hlt;omega
  refine ⟨_,rfl,by omega,by simp only;omega,.func (.func (Ao k)) #[] #[],?_,v,hg.size,ac (l4 _ _ q1),Ao k,#[],#[],rfl,?_⟩
  ·rw [N5,aC,am (l4 _ _ q9)]
   match k,hlt with
   |0,_=>rfl
   |1,_=>rfl
   |2,_=>rfl
   |3,_=>rfl
   |4,_=>rfl
   |5,_=>rfl
  ·obtain ⟨h1,h2⟩:=Ck (hT.le (aa l1 l4)) (hg.le (aa l1 l4)) hb hz k;refine ⟨h1,?_⟩;have e:(#[]:Γ)++[Value.agg v].toArray++ #[]= #[.agg v]:=by simp
   dsimp only;rw [e];refine h2.mono ?_;rintro _ F5 ⟨rfl,l5⟩;refine ⟨_,rfl,λhne=>⟨by rw [hfin k hlt hi hne],aa l1 (aa l4 l5)⟩,λhz0=> ?_⟩;rw [aH hlt (by omega)];refine next _ hlt ⟨aa l4 l5,λj hj=> ?_⟩;by_cases e:j=k
   ·rw [e];exact Classical.not_not.1 hz0
   ·exact hi j (by omega)
 ·have e:k=6:=by simp only at hge;omega
  subst e;unfold Dr;refine ⟨?_,aa l1 l4⟩;rw [oI.2 ⟨hb,nz0 (a:=54) (by decide) (hi 0 (by decide)),nz0 (a:=51) (by decide) (hi 1 (by decide)),nz0 (a:=50) (by decide) (hi 2 (by decide)),hi 3 (by decide),nz0 (a:=53) (by decide) (hi 4 (by decide)),nz0 (a:=53) (by decide) (hi 5 (by decide))⟩]
section
end
section
end
structure SlT (t e:TypeId) (n bytes:Nat) (z:Value):Prop where
 ht:prog.underlying t=some (.slice e)
 hsz:tsz prog e=some (n,bytes)
 hz:bP prog e=some z
 hzs:z.cells.size=n
 hn:0<n
 hb:bytes<=250
theorem Dq {n m b:Nat} (hb:b<=250) (h:n+m<=500000000000):(n+m)*b<=140737488355328:=
 UE (Nat.mul_le_mul h hb) (by decide)
theorem St.appAt {G F:PH} {As:List (Ψ)} {t e n bytes:Nat} {z:Value} (T:SlT t e n bytes z) {s x:Sl} {olds news:Ξ} {ty:TypeId} (h:St G F As) (i:Nat) (hi:As[i]? =some (own s e n olds)) (hx:RdS F x n news) (hst:∀v∈news,al v)
  (hlen:s.len+x.len<=500000000000) {K:Sl->Ψ} (k:∀s' F',St G F' (As.set i (own s' e n (olds++news)))->s'.len=s.len+x.len->K s' F'):
  aD prog (Builtin.append_ #[t,t] ty #[s.v,x.v]) F λv F=>∃s':Sl,v=Sl.v s'/\K s' F:=by
 obtain ⟨H,a1,a2,a3,a4⟩:=h.set (A':=own s e n olds) hi;have ho:=(h.ownAt hi).1;by_cases h0:x.len=0
 ·have hnil:news=[]:=T4 (by rw [hx.len,h0,UV]);subst hnil;refine nQ T.ht T.hsz T.hz T.hzs ho hx h0 (by have:=Dq (n:=s.len) (m:=0) T.hb (by omega);simpa using this) (by omega) ⟨s,rfl,k s F ?_ (by omega)⟩;rw [Us];exact a4 H F a1 (λb hb=> .inl hb) a3 (λb o hb _=>hb)
 ·refine qh T.ht T.hsz T.hz T.hzs T.hn ho hx (by omega) hst (Dq T.hb hlen) (by omega) ?_;rintro s' F' b ob rfl ho' hl' hbase hb;obtain ⟨H,a1,a2,a3,a4⟩:=h.set (A':=own s' e n (olds++news)) hi;have hb':H b≠none\/F b=none:=by
   rcases hb with ⟨a,ha,rfl⟩|hb
   ·obtain ⟨cur,hc⟩:=bW.elem a1 ha;exact .inl (by rw [hc];simp)
   ·exact .inr hb
  refine ⟨s',rfl,k s' _ ?_ hl'⟩;refine a4 (PH.set (λ_=>none) b ob) _ (ho'.keep λa ha=>by rw [hbase a ha,ak,ak]) (λx hx=> ?_) (λx p hx=> ?_) (λx p hx hn=> ?_)
  ·by_cases e:x=b
   ·rw [e];exact hb'
   ·rw [au _ _ e] at hx;exact absurd rfl hx
  ·by_cases e:x=b
   ·rw [e,ak] at hx ⊢;exact hx
   ·rw [au _ _ e] at hx;cases hx
  ·have e:x≠b:=λe=>by
    subst e;rcases hb' with h|h
    ·exact h hn
    ·rw [h] at hx;cases hx
   rw [au _ _ e];exact hx
namespace St
section
variable {G F:PH} {As:List (Ψ)} {t e n bytes:Nat} {z:Value}
theorem own_rd {s:Sl} {vs:Ξ} {H:PH} (h:own s e n vs H):RdS H s n vs:=bW.rd h
theorem pinOwn {s:Sl} {vs:Ξ} (h:St G F (own s e n vs::As)) {K:Ψ} (k:∀G',G.le G'->RdS G' s n vs->St G' F As->K F):K F:=by obtain ⟨G',h1,⟨H,hA,hH⟩,h2⟩:=h.pin;exact k G' h1 ((bW.rd hA).le hH) h2
theorem app0 (T:SlT t e n bytes z) {s x:Sl} {olds news:Ξ} {ty:TypeId} (h:St G F (own s e n olds::As)) (hx:RdS F x n news) (hst:∀v∈news,al v) (hlen:s.len+x.len<=500000000000) {K:Sl->Ψ}
  (k:∀s' F',St G F' (own s' e n (olds++news)::As)->s'.len=s.len+x.len->K s' F'):
  aD prog (Builtin.append_ #[t,t] ty #[s.v,x.v]) F λv F=>∃s':Sl,v=Sl.v s'/\K s' F:=h.appAt T 0 rfl hx hst hlen k
theorem push0 (T:SlT t e n bytes z) {s:Sl} {olds:Ξ} {c:Γ} {ty:TypeId} (h:St G F (own s e n olds::As)) (hc:c.size=n) (hst:∀v∈c.toList,al v) (hlen:s.len<=400000000000) {K:Sl->Ψ}
  (k:∀s' G' F',G.le G'->St G' F' (own s' e n (olds++c.toList)::As)->s'.len=s.len+1->K s' F'):
  ∀b,F b=none->atF (F.set b (.cells c e)) λF=>aD prog (Builtin.append_ #[t,t] ty #[s.v,Sl.v (Sl.mk (some (Addr.mk b 0 none)) 1 1)]) F λv F=>∃s':Sl,v=Sl.v s'/\K s' F:=by
 refine h.newG λb G' F' l q _ h=> ?_;have hx:RdS F' (Sl.mk (some (Addr.mk b 0 none)) 1 1) n c.toList:=RdS.new (h.le _ _ q) (TV (by rw [TX,hc,Vl];exact TT _)) (by rw [TX,hc,Vl]) (TT _);exact h.app0 T hx hst (by show s.len+1<=_;omega) λs' F'' h' hl'=>k s' G' F'' l h' hl'
theorem app1 {p0:Ψ} (T:SlT t e n bytes z) {s x:Sl} {olds news:Ξ} {ty:TypeId} (h:St G F (p0::own s e n olds::As)) (hx:RdS F x n news) (hst:∀v∈news,al v) (hlen:s.len+x.len<=500000000000) {K:Sl->Ψ}
  (k:∀s' F',St G F' (p0::own s' e n (olds++news)::As)->s'.len=s.len+x.len->K s' F'):
  aD prog (Builtin.append_ #[t,t] ty #[s.v,x.v]) F λv F=>∃s':Sl,v=Sl.v s'/\K s' F:=h.appAt T 1 rfl hx hst hlen k
theorem push1 {p0:Ψ} (T:SlT t e n bytes z) {s:Sl} {olds:Ξ} {c:Γ} {ty:TypeId} (h:St G F (p0::own s e n olds::As)) (hc:c.size=n) (hst:∀v∈c.toList,al v) (hlen:s.len<=400000000000) {K:Sl->Ψ}
  (k:∀s' G' F',G.le G'->St G' F' (p0::own s' e n (olds++c.toList)::As)->s'.len=s.len+1->K s' F'):
  ∀b,F b=none->atF (F.set b (.cells c e)) λF=>aD prog (Builtin.append_ #[t,t] ty #[s.v,Sl.v (Sl.mk (some (Addr.mk b 0 none)) 1 1)]) F λv F=>∃s':Sl,v=Sl.v s'/\K s' F:=by
 refine h.newG λb G' F' l q _ h=> ?_;have hx:RdS F' (Sl.mk (some (Addr.mk b 0 none)) 1 1) n c.toList:=RdS.new (h.le _ _ q) (TV (by rw [TX,hc,Vl];exact TT _)) (by rw [TX,hc,Vl]) (TT _);exact h.app1 T hx hst (by show s.len+1<=_;omega) λs' F'' h' hl'=>k s' G' F'' l h' hl'
theorem app2 {p0 p1:Ψ} (T:SlT t e n bytes z) {s x:Sl} {olds news:Ξ} {ty:TypeId} (h:St G F (p0::p1::own s e n olds::As)) (hx:RdS F x n news) (hst:∀v∈news,al v) (hlen:s.len+x.len<=500000000000) {K:Sl->Ψ}
  (k:∀s' F',St G F' (p0::p1::own s' e n (olds++news)::As)->s'.len=s.len+x.len->K s' F'):
  aD prog (Builtin.append_ #[t,t] ty #[s.v,x.v]) F λv F=>∃s':Sl,v=Sl.v s'/\K s' F:=h.appAt T 2 rfl hx hst hlen k
theorem push2 {p0 p1:Ψ} (T:SlT t e n bytes z) {s:Sl} {olds:Ξ} {c:Γ} {ty:TypeId} (h:St G F (p0::p1::own s e n olds::As)) (hc:c.size=n) (hst:∀v∈c.toList,al v) (hlen:s.len<=400000000000) {K:Sl->Ψ}
  (k:∀s' G' F',G.le G'->St G' F' (p0::p1::own s' e n (olds++c.toList)::As)->s'.len=s.len+1->K s' F'):
  ∀b,F b=none->atF (F.set b (.cells c e)) λF=>aD prog (Builtin.append_ #[t,t] ty #[s.v,Sl.v (Sl.mk (some (Addr.mk b 0 none)) 1 1)]) F λv F=>∃s':Sl,v=Sl.v s'/\K s' F:=by
 refine h.newG λb G' F' l q _ h=> ?_;have hx:RdS F' (Sl.mk (some (Addr.mk b 0 none)) 1 1) n c.toList:=RdS.new (h.le _ _ q) (TV (by rw [TX,hc,Vl];exact TT _)) (by rw [TX,hc,Vl]) (TT _);exact h.app2 T hx hst (by show s.len+1<=_;omega) λs' F'' h' hl'=>k s' G' F'' l h' hl'
end
end St
section
end
theorem IT:SlT 67 3 1 8 (.int .i64 0):=⟨underlying67,sz3,zr3,rfl,by decide,by decide⟩
theorem Rp:∃b z,SlT 50 63 2 b z:=⟨_,_,underlying50,NH,NL,rfl,by decide,by decide⟩
theorem M2:∃b z,SlT 32 146 7 b z:=⟨_,_,underlying32,NI,NM,rfl,by decide,by decide⟩
theorem KW:∃b z,SlT 33 55 13 b z:=⟨_,_,underlying33,NG,NK,rfl,by decide,by decide⟩
theorem Rq:∃b z,SlT 34 69 4 b z:=⟨_,_,underlying34,RR,RV,rfl,by decide,by decide⟩
theorem Rs:∃b z,SlT 35 156 9 b z:=⟨_,_,underlying35,NJ,NN,rfl,by decide,by decide⟩
theorem Rt:SlT 73 77 1 8 (.int .u64 0):=⟨underlying73,RT,RW,rfl,by decide,by decide⟩
section
end
end Go.Proofs.YtcemhghkipgdiaaGreatDoor
