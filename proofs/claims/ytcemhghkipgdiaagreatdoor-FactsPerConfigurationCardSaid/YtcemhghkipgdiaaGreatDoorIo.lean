/-
  withRule: the whole.
-/
import Derived.Test.YtcemhghkipgdiaaGreatDoorIk
import Derived.Test.YtcemhghkipgdiaaGreatDoorFr
namespace Go.Proofs.YtcemhghkipgdiaaGreatDoor
open Go.IntKind (i64 u8 u64)
open Go Go.Proofs.Tryz Tr
set_option maxRecDepth 10000
theorem DH {F:PH} {v:Γ} {d:Dia} {n:Nat} (hd:DV F v d) (hf:Fit (d.1.length+4)) (hl:d.1.length<=1000000):ai prog 166 #[.agg v,vi n] F λr F'=>r=.bool (qw d n)/\F.le F':=by
 obtain ⟨s,rfl,hr⟩:=hd.out;refine Ro ?_;unfold Ly;refine (St.start F).newG λb2 G1 F1 l1 q1 _ h=> ?_;refine ⟨_,rfl,ac (h.le _ _ q1),?_⟩;refine h.runv (Db (DV.mk (hr.le l1)) hf) λG2 F2 l2 h=> ?_;have l12:=aa l1 l2;have er:=hr.len (by decide);refine ⟨_,rfl,λhc=>⟨?_,aa l12 h.le⟩,λhc=> ?_⟩
 ·have:qw d n=false:=uS.2 λhg=>hc hg.1;rw [this]
 have hc:chk d=0:=Classical.not_not.1 hc;refine bz (vW · (n:Int) b2 _) d.1.length (λk F'=>G2.le F'/\∀b∈d.1.take k,b.v<n) ⟨h.le,by simp⟩ ?_;rintro k F3 N hk ⟨l3,hall⟩ next;unfold vW;have p1:=l3 _ _ (l2 _ _ q1);have l13:=aa l12 l3;refine ⟨_,ld p1 rfl,λhlt=>⟨_,ld p1 rfl,ixc (hr.le l13) (by decide) (by omega) hlt λa cc x hx hrow hcx=> ?_⟩,λhge=> ?_⟩
 ·rw [N4] at hx;rw [show cc=aV x from hcx] at hrow;refine ⟨x.v,be hrow rfl,λhb=>⟨?_,l13⟩,λhb=> ?_⟩
  ·have:qw d n=false:=uS.2 λhg=>by have:=hg.2 x (UY hx);omega
   rw [this]
  ·rw [aI (n:=d.1.length) (by omega) (by omega)];refine next _ (by omega) ⟨l3,λb hb'=> ?_⟩;rw [bu hx] at hb';rcases UX.1 hb' with h|h
   ·exact hall b h
   ·rw [UU.1 h];omega
 ·have e:k=d.1.length:=by omega
  subst e;rw [U7] at hall;unfold BZ;exact ⟨by rw [cM.2 ⟨hc,hall⟩],l13⟩
def gA (x:Fi):Prop:=((x.k=1\/x.k=2)\/(x.par=0/\x.pos=0/\x.ch=0))/\((x.k=1\/x.k=2)->x.toks=[])/\((x.k=3\/x.k=4)\/x.left=0)/\(x.k=5\/x.tok=0)
open Classical in
theorem Ch {F:PH} {w:Γ} {x:Fi} (hx:Mem.rep F x w):ai prog 176 #[.agg w] F λr F'=>r=.bool (decide (gA x))/\F.le F':=by
 obtain ⟨tt,nn,rfl,ht,_⟩:=hx;have et:=ht.len (by decide);refine Rq ?_;unfold LA;refine fresh λb1 F1 l1 q _=> ?_;have R:∀{b:Bool},(b=true↔gA x)->(Value.bool b=.bool (decide (gA x))/\F.le F1):=λ{b} h=>⟨by congr 1;rw [U3,h,decide_eq_true_eq],l1⟩;have no:¬gA x->(Value.bool false=.bool (decide (gA x))/\F.le F1):=λh=>R ⟨λh=>(by cases h),λhp=>absurd hp h⟩;have tl:(x.toks=[])↔¬(0:Int)<(tt.len:Int):=by
  rw [et];constructor
  ·intro h;rw [h];simp
  ·intro h;exact Vc (by omega)
 have j3:∀beside:Bool,(beside=true↔(x.k=3\/x.k=4))->((x.k=1\/x.k=2)\/(x.par=0/\x.pos=0/\x.ch=0))->((x.k=1\/x.k=2)->x.toks=[])->
   pQ b1 beside (λr F'=>r=.bool (decide (gA x))/\F.le F') F1:=λbeside hb h1 h2=>by
  unfold pQ;refine ⟨λhb1=>⟨_,ld q rfl,λh5=>R ⟨λ_=>⟨h1,h2,.inl (hb.1 hb1),.inl h5⟩,λ_=>rfl⟩,λh5=>⟨_,ld q rfl,R ?_⟩⟩,λhb1=>⟨_,ld q rfl,λh0=>⟨_,ld q rfl,λh5=>R ⟨λ_=>⟨h1,h2,.inr h0,.inl h5⟩,λ_=>rfl⟩,λh5=>⟨_,ld q rfl,R ?_⟩⟩,λh0=>no λhp=> ?_⟩⟩
  ·rw [decide_eq_true_eq];exact ⟨λh=>⟨h1,h2,.inl (hb.1 hb1),.inr h⟩,λhp=>hp.2.2.2.resolve_left h5⟩
  ·rw [decide_eq_true_eq];exact ⟨λh=>⟨h1,h2,.inr h0,.inr h⟩,λhp=>hp.2.2.2.resolve_left h5⟩
  ·rcases hp.2.2.1 with h|h
   ·rw [hb.2 h] at hb1;cases hb1
   ·exact h0 h
 have j2:((x.k=1\/x.k=2)\/(x.par=0/\x.pos=0/\x.ch=0))->((x.k=1\/x.k=2)->x.toks=[])->jX b1 (λr F'=>r=.bool (decide (gA x))/\F.le F') F1:=λh1 h2=>by unfold jX;refine ⟨_,ld q rfl,λh3=>j3 true ⟨λ_=> .inl h3,λ_=>rfl⟩ h1 h2,λh3=>⟨_,ld q rfl,j3 _ ?_ h1 h2⟩⟩;rw [decide_eq_true_eq];exact ⟨λh=> .inr h,λh=>h.resolve_left h3⟩
 have j1:∀pr:Bool,(pr=true↔(x.k=1\/x.k=2))->pR b1 pr (λr F'=>r=.bool (decide (gA x))/\F.le F') F1:=λpr hpr=>by
  unfold pR;cases pr with
  |true=>have hk:=hpr.1 rfl;exact ⟨λh=>(by cases h),λ_=>⟨λ_=>⟨_,ld q rfl,λh=>no λhp=>tl.1 (hp.2.1 hk) h,λh=>j2 (.inl hk) λ_=>tl.2 h⟩,λh=>(by cases h)⟩⟩
  |false=>
   have hk:¬(x.k=1\/x.k=2):=λh=>by have:=hpr.2 h;cases this
   refine ⟨λ_=>⟨_,ld q rfl,λh=>no λhp=>h (hp.1.resolve_left hk).1,λh1=>⟨_,ld q rfl,λh=>no λhp=>h (hp.1.resolve_left hk).2.1,λh2=>⟨_,ld q rfl,λh=>no λhp=>h (hp.1.resolve_left hk).2.2,λh3=>⟨λh=>(by cases h),λ_=>j2 (.inr ⟨Classical.not_not.1 h1,Classical.not_not.1 h2,Classical.not_not.1 h3⟩) λh=>absurd h hk⟩⟩⟩⟩,λh=>(by cases h)⟩
 refine ⟨_,ld q rfl,λh=>j1 true ⟨λ_=> .inl h,λ_=>rfl⟩,λh=>⟨_,ld q rfl,j1 _ ?_⟩⟩;rw [decide_eq_true_eq];exact ⟨λh=> .inr h,λh'=>h'.resolve_left h⟩
def j5 (lit:Bool) (t:Tk):Bool:=if lit then !decide (t.lit=emp) else decide (t.cls=0)
open Classical in
theorem te {F:PH} {v:Γ} {g:Gr} (hg:GV F v g) {sl:Sl} {l:Φ} (hl:RL F sl l) (hll:l.length<=1000000000) (lit:Bool):ai prog 177 #[.agg v,sl.v,.bool lit] F λr F'=>r=.bool (decide (fE g (j5 lit) l))/\F.le F':=by
 obtain ⟨c,n,t,s,p,lv,f,rfl,hs⟩:=hg;have et:=hs.t.len (by decide);have el:=hl.len (by decide);refine Rs ?_;unfold LB;refine fresh λb1 F1 l1 q1 _=> ?_;replace hs:=hs.le l1;replace hl:=hl.le l1;have no:∀{F':PH},F1.le F'->¬fE g (j5 lit) l->(Value.bool false=.bool (decide (fE g (j5 lit) l))/\F.le F'):=λ{F'} l h=>⟨by rw [decide_eq_false h],aa l1 l⟩;refine bz (vX · sl lit b1 _) l.length (λj F'=>F1.le F'/\(∀n∈l.take j,0<=n/\∃t,g.toks[n.toNat]? =some t/\j5 lit t=true)/\∀(i:Nat) (x y:Int),i+1<j->l[i]? =some x->l[i+1]? =some y->x<y)
  ⟨aq _,by simp,λi x y h=>by omega⟩ ?_
 rintro j F2 N hj ⟨l2,i1,i2⟩ next;unfold vX;refine ⟨λhlt=> ?_,λhge=> ?_⟩
 ·have hlt:j<l.length:=by omega
  have hx:=N5 hlt;generalize l[j]=x at hx;obtain ⟨a,cc,ha,hr,hc⟩:=(hl.le l2).get (by decide) hx;rw [show cc= #[vi x] from hc] at hr;have hcell:F2.cell (Addr.add a (Int.toNat (j:Int)*1))=some (vi x):=by rw [N4];exact be hr rfl
  have hxm:x∈l:=UY hx;have p1:=l2 _ _ q1;have noR:¬(0<=x/\x<g.toks.length)->(Value.bool false=.bool (decide (fE g (j5 lit) l))/\F.le F2):=λh=>no l2 λhp=>by obtain ⟨h0,t',ht,_⟩:=hp.2.1 x hxm;have:=(N6.1 ht).1;exact h ⟨h0,by omega⟩
  refine ⟨a,ha,by omega,by omega,x,hcell,λh=>noR (by omega),λx0=>⟨a,ha,by omega,by omega,x,hcell,_,ld p1 rfl,λh=>noR (by omega),λx1=> ?_⟩⟩;have body:(∀y,0<j->l[j - 1]? =some y->y<x)->pT N sl lit b1 (j:Int) (λr F'=>r=.bool (decide (fE g (j5 lit) l))/\F.le F') F2:=λhprev=>by
   unfold pT;refine ⟨_,ld p1 rfl,a,ha,by omega,by omega,x,hcell,ixc (hs.t.le l2) (by decide) (by omega) (by omega) λa2 c2 y hy hr2 hc2=>⟨c2,Mem.len hc2,hr2,?_⟩⟩;refine var1 (Mem.st hc2) (λb F3 l3 q3=> ?_) rfl (Mem.len hc2);have l23:=aa l2 l3;obtain ⟨pp,nn,rfl,_,_⟩:=hc2;have bad:j5 lit y=false->(Value.bool false=.bool (decide (fE g (j5 lit) l))/\F.le F3):=λhk=>no l23 λhp=>by obtain ⟨h0,t',ht,hk'⟩:=hp.2.1 x hxm;rw [hy] at ht;cases ht;rw [hk'] at hk;cases hk
   have good:j5 lit y=true->pS N sl lit b1 (j:Int) (λr F'=>r=.bool (decide (fE g (j5 lit) l))/\F.le F') F3:=λhk=>by
    unfold pS;rw [aI hlt (by omega)];refine next _ hlt ⟨l23,λm hm=> ?_,λi u w hi hu hw=> ?_⟩
    ·rw [bu hx] at hm;rcases UX.1 hm with hm|hm
     ·exact i1 m hm
     ·rw [UU.1 hm];exact ⟨by omega,y,hy,hk⟩
    ·by_cases e:i+1<j
     ·exact i2 i u w e hu hw
     ·have e:j=i+1:=by omega
      subst e;rw [hx] at hw;cases hw;exact hprev u (by omega) hu
   refine ⟨λhlit=>⟨y.lit,ld q3 rfl,?_⟩,λhlit=>⟨y.cls,ld q3 rfl,λh=>bad (by unfold j5;rw [hlit];simpa using h),λh=>good (by unfold j5;rw [hlit];simpa using h)⟩⟩;dsimp only;rw [qv];exact ⟨λh=>bad (by unfold j5;rw [hlit];simpa using h),λh=>good (by unfold j5;rw [hlit];simpa using h)⟩
  refine ⟨λhj0=> ?_,λhj0=>body λy h=>by omega⟩;have hj0:0<j:=by omega
  have ew:i64.wrap ((j:Int) - 1)=((j - 1:Nat):Int):=by rw [aS (by omega) (by omega)];omega
  rw [ew];have hy:=N5 (show j - 1<l.length by omega);generalize l[j - 1]=y at hy;obtain ⟨a',cc',ha',hr',hc'⟩:=(hl.le l2).get (by decide) hy;rw [show cc'= #[vi y] from hc'] at hr';refine ⟨a,ha,by omega,by omega,x,hcell,a',ha',by omega,by omega,y,by rw [N4];exact be hr' rfl,λh=>no l2 λhp=> ?_,λh=>body λz _ hz=> ?_⟩
  ·have:=hp.2.2 (j - 1) y x hy (by rw [show j - 1+1=j by omega];exact hx);omega
  ·rw [hy] at hz;cases hz;omega
 ·have e:j=l.length:=by omega
  subst e;rw [U7] at i1;unfold B0;refine ⟨?_,aa l1 l2⟩;congr 1;rw [U3,decide_eq_true_eq,decide_eq_true_eq];constructor
  ·intro h;refine ⟨λe=>by rw [e] at el;simp at el;omega,i1,λi x y hx hy=>i2 i x y ?_ hx hy⟩;exact (N6.1 hy).1
  ·intro h;have:l.length≠0:=λe=>h.1 (Vc e);omega
open Classical in
theorem yr {F:PH} {v w:Γ} {g:Gr} {x:Fi} (hg:GV F v g) (hx:Mem.rep F x w) (hf:x.cond.1.length<=1000000) (hll:x.toks.length<=1000000000):ai prog 138 #[.agg v,.agg w] F λr F'=>r=.bool (decide (bZ g x))/\F.le F':=by
 have hg0:=hg;have hx0:=hx;obtain ⟨c,n,t,s,p,lv,f,rfl,hs⟩:=hg;obtain ⟨tt,nn,rfl,ht,hd⟩:=hx;have ec:=hs.c.len (by decide);have et:=hs.t.len (by decide);have es:=hs.s.len (by decide);have ep:=hs.p.len (by decide);refine Rk ?_;unfold Lm;refine (St.start F).newG λb2 G1 F1 l1 q2 _ h=> ?_;refine h.newG λb3 G2 F2 l2 q3 _ h=> ?_;replace q2:=l2 _ _ q2;replace l1:=aa l1 l2;have R:∀{F':PH} {b:Bool},G2.le F'->(b=true↔bZ g x)->(Value.bool b=.bool (decide (bZ g x))/\F.le F'):=λ{F' b} l h=>⟨by congr 1;rw [U3,h,decide_eq_true_eq],aa l1 l⟩;have no:∀{F':PH},G2.le F'->¬bZ g x->(Value.bool false=.bool (decide (bZ g x))/\F.le F'):=λl h=>R l ⟨λh=>(by cases h),λhp=>absurd hp h⟩;have kr:bZ g x->1<=x.k/\x.k<=5:=λh=>by rcases h.2 with h|h|h<;>have:=h.1<;>omega
 have pl:bZ g x->gA x:=λh=>by
  rcases h.2 with ⟨k,_,a,b,c⟩|⟨k,_,a,b,c,d⟩|⟨k,_,a,b,c,d⟩
  ·exact ⟨.inl k,λ_=>c,.inr a,.inr b⟩
  ·exact ⟨.inr ⟨a,b,c⟩,λh=>by omega,.inl k,.inr d⟩
  ·exact ⟨.inr ⟨a,b,c⟩,λh=>by omega,.inr d,.inl k⟩
 refine ⟨_,ld (h.le _ _ q3) rfl,λhk=>no h.le λhp=>by have:=kr hp;omega,λhk1=>⟨_,ld (h.le _ _ q3) rfl,λhk=>no h.le λhp=>by have:=kr hp;omega,λhk5=>⟨#[nn.v,vi x.cond.2],rfl,kD (h.le _ _ q3) rfl,_,ld (h.le _ _ q2) rfl,?_⟩⟩⟩;dsimp only;rw [ec];refine h.runv (DH (d:=x.cond) (DV.mk (hd.le l1)) (by show _<=_;omega) hf) λG3 F3 l3 h=> ?_;replace no:∀{F':PH},G3.le F'->¬bZ g x->(Value.bool false=.bool (decide (bZ g x))/\F.le F'):=λl h=>no (aa l3 l) h;replace q3:=l3 _ _ q3;replace q2:=l3 _ _ q2;have l13:=aa l1 l3;refine ⟨_,rfl,λhc=>no h.le λhp=>(by rw [cM.2 hp.1] at hc;cases hc),λhc=>⟨_,rfl,ac (h.le _ _ q3),?_⟩⟩;have hfit:ij x.cond g.conds.length:=cM.1 (by simpa using hc);refine h.runv (Ch (Mem.le l13 hx0)) λG4 F4 l4 h=> ?_;replace no:∀{F':PH},G4.le F'->¬bZ g x->(Value.bool false=.bool (decide (bZ g x))/\F.le F'):=λl h=>no (aa l4 l) h;replace R:∀{F':PH} {b:Bool},G4.le F'->(b=true↔bZ g x)->(Value.bool b=.bool (decide (bZ g x))/\F.le F'):=λl h=>R (aa l3 (aa l4 l)) h;replace q3:=l4 _ _ q3;replace q2:=l4 _ _ q2;replace l13:=aa l13 l4;refine ⟨_,rfl,λhc=>no h.le λhp=>(by rw [decide_eq_true (pl hp)] at hc;cases hc),λhc=> ?_⟩;have hpl:gA x:=by simpa using hc
 obtain ⟨P1,P2,P3,P4⟩:=hpl;have j2:¬(x.k=1\/x.k=2)->∀q:Bool,(q=true↔(x.k=3\/x.k=4))->pO b2 b3 q (λr F'=>r=.bool (decide (bZ g x))/\F.le F') F4:=λhk12 q hq=>by
  have hz:=P1.resolve_left hk12;unfold pO;refine ⟨λh1=> ?_,λh1=> ?_⟩
  ·have hk:=hq.1 h1;have h5:x.tok=0:=P4.resolve_left (by omega);have key:bZ g x↔(0<=x.left/\x.left<g.nons.length/\fE g (λt=>decide (t.cls=0)) x.toks):=by
    constructor
    ·intro hp;rcases hp.2 with h|h|h
     ·exact absurd h.1 hk12
     ·exact h.2.1
     ·have:=h.1;omega
    ·intro h;exact ⟨hfit,.inr (.inl ⟨hk,h,hz.1,hz.2.1,hz.2.2,h5⟩)⟩
   refine ⟨_,ld (h.le _ _ q3) rfl,λh0=>⟨_,ld (h.le _ _ q3) rfl,_,ld (h.le _ _ q2) rfl,λh2=>⟨_,rfl,ac (h.le _ _ q2),_,ld (h.le _ _ q3) rfl,?_⟩,λh2=>no h.le λhp=> ?_⟩,λh0=>no h.le λhp=>h0 (key.1 hp).1⟩
   ·refine h.runv (te (GV.le hg0 l13) (ht.le l13) hll false) λG5 F5 l5 h=>⟨_,rfl,R (aa l5 h.le) ?_⟩;rw [decide_eq_true_eq,key];exact ⟨λh=>⟨h0,by omega,h⟩,λh=>h.2.2⟩
   ·have:=(key.1 hp).2.1;omega
  ·have hk:¬(x.k=3\/x.k=4):=λh=>by rw [hq.2 h] at h1;cases h1
   have hk5:x.k=5:=by omega
   have h5:x.left=0:=P3.resolve_left hk;have key:bZ g x↔(fE g (λt=> !decide (t.lit=emp)) x.toks/\0<=x.tok/\∃t,g.toks[x.tok.toNat]? =some t/\t.cls=0/\t.lit=emp):=by
    constructor
    ·intro hp;rcases hp.2 with h|h|h
     ·exact absurd h.1 hk12
     ·exact absurd h.1 hk
     ·exact h.2.1
    ·intro h;exact ⟨hfit,.inr (.inr ⟨hk5,h,hz.1,hz.2.1,hz.2.2,h5⟩)⟩
   have noT:∀{F':PH},G4.le F'->¬(0<=x.tok/\x.tok<g.toks.length)->(Value.bool false=.bool (decide (bZ g x))/\F.le F'):=λl h=>no l λhp=>by obtain ⟨_,h0,y,hy,_⟩:=key.1 hp;have:=(N6.1 hy).1;exact h ⟨h0,by omega⟩
   refine ⟨_,ld (h.le _ _ q3) rfl,λh0=>noT h.le (by omega),λh0=>⟨_,ld (h.le _ _ q3) rfl,_,ld (h.le _ _ q2) rfl,λh2=>noT h.le (by omega),λh2=>⟨_,rfl,ac (h.le _ _ q2),_,ld (h.le _ _ q3) rfl,?_⟩⟩⟩;refine h.runv (te (GV.le hg0 l13) (ht.le l13) hll true) λG5 F5 l5 h=>⟨_,rfl,λhc=>no (aa l5 h.le) λhp=> ?_,λhc=> ?_⟩
   ·rw [decide_eq_true (show fE g (j5 true) x.toks from (key.1 hp).1)] at hc;cases hc
   have hasc:fE g (j5 true) x.toks:=by simpa using hc
   have l15:=aa l13 l5;refine ⟨_,ld (h.le _ _ (l5 _ _ q2)) rfl,_,ld (h.le _ _ (l5 _ _ q3)) rfl,h.ix (hs.t.le l15) (by decide) (by omega) (by omega) λa cc y hy hr hcc=>⟨cc,Mem.len hcc,hr,?_⟩⟩;have hstc:=Mem.st hcc;have hlc:cc.size=7:=Mem.len hcc;obtain ⟨pp,nn',rfl,_,_⟩:=hcc;refine h.var hstc (λb6 G6 F6 l6 q6 h=> ?_) rfl rfl;refine ⟨_,ld (h.le _ _ q6) rfl,λhcl=>⟨_,ld (h.le _ _ q6) rfl,R (aa l5 (aa l6 h.le)) ?_⟩,λhcl=>no (aa l5 (aa l6 h.le)) λhp=> ?_⟩
   ·rw [qv,decide_eq_true_eq,key];constructor
    ·intro hl;exact ⟨hasc,by omega,y,hy,hcl,hl⟩
    ·rintro ⟨_,_,y',hy',_,hl⟩;rw [hy] at hy';cases hy';exact hl
   ·obtain ⟨_,_,y',hy',hcl',_⟩:=key.1 hp;rw [hy] at hy';cases hy';exact hcl hcl'
 have j1:∀q:Bool,(q=true↔(x.k=1\/x.k=2))->pP b2 b3 x.k q (λr F'=>r=.bool (decide (bZ g x))/\F.le F') F4:=λq hq=>by
  unfold pP;refine ⟨λh1=> ?_,λh1=> ?_⟩
  ·have hk:=hq.1 h1;have key:bZ g x↔od g x:=by
    constructor
    ·intro hp;rcases hp.2 with h|h|h
     ·exact h.2.1
     ·have:=h.1;omega
     ·have:=h.1;omega
    ·intro h;exact ⟨hfit,.inl ⟨hk,h,P3.resolve_left (by omega),P4.resolve_left (by omega),P2 hk⟩⟩
   have noR:¬(0<=x.par/\x.par<g.prods.length/\0<=x.ch/\x.ch<g.prods.length)->(Value.bool false=.bool (decide (bZ g x))/\F.le F4):=λhn=>no h.le λhp=>by obtain ⟨h0,h1,_,p',q',hp',hq',_⟩:=key.1 hp;have:=(N6.1 hp').1;have:=(N6.1 hq').1;exact hn (by omega)
   have p2:=h.le _ _ q2;have p3:=h.le _ _ q3;refine ⟨_,ld p3 rfl,λh0=>noR (by omega),λh0=>⟨_,ld p3 rfl,_,ld p2 rfl,λh0=>noR (by omega),λh2=>⟨_,ld p3 rfl,λh0=>noR (by omega),λh3=>⟨_,ld p3 rfl,_,ld p2 rfl,λh0=>noR (by omega),λh4=>⟨_,ld p2 rfl,_,ld p3 rfl,?_⟩⟩⟩⟩⟩;refine h.ix (hs.p.le l13) (by decide) (by omega) (by omega) λa cc y hy hr hcc=> ?_;obtain ⟨rr,n2,l2',rfl,hrr,_,_⟩:=hcc;have er:=hrr.len (by decide);have noA:¬(0<=x.pos/\x.pos<y.right.length)->(Value.bool false=.bool (decide (bZ g x))/\F.le F4):=λhn=>no h.le λhp=>by obtain ⟨_,_,h0,p',q',hp',_,hs'⟩:=key.1 hp;rw [hy] at hp';cases hp';have:=(N6.1 hs').1;exact hn (by omega)
   refine ⟨rr,dc hr rfl,_,ld p3 rfl,λh5=>⟨_,ld p3 rfl,λh6=>⟨_,ld p3 rfl,?_⟩,λh6=>noA (by omega)⟩,λh5=>noA (by omega)⟩;have hlt:x.pos.toNat<y.right.length:=by omega
   have hz:=N5 hlt;generalize y.right[x.pos.toNat]=z at hz;obtain ⟨a2,c2,ha2,hr2,hc2⟩:=(hrr.le h.le).get (by decide) hz;rw [show c2=z.arr from hc2] at hr2;refine ⟨a2,ha2,by omega,by omega,z.t,be hr2 rfl,λhzt=>⟨_,ld p3 rfl,a2,ha2,by omega,by omega,z.i,dc hr2 rfl,_,ld p2 rfl,_,ld p3 rfl,?_⟩,λhzt=>no h.le λhp=> ?_⟩
   ·refine h.ix (hs.p.le l13) (by decide) (by omega) (by omega) λa cc u hu hr hcc=> ?_;obtain ⟨r3,n3,l3',rfl,_,_,_⟩:=hcc;refine ⟨u.left,dc hr rfl,R h.le ?_⟩;rw [decide_eq_true_eq,key];have hzt:z.t=false:=by simpa using hzt
    constructor
    ·intro he;refine ⟨by omega,by omega,by omega,y,u,hy,hu,?_⟩;rw [hz,<- he,<- hzt]
    ·rintro ⟨_,_,_,p',q',hp',hq',hs'⟩;rw [hy] at hp';cases hp';rw [hu] at hq';cases hq';rw [hz] at hs';cases hs';rfl
   ·obtain ⟨_,_,_,p',q',hp',hq',hs'⟩:=key.1 hp;rw [hy] at hp';cases hp';rw [hz] at hs';cases hs';cases hzt
  ·have hk12:¬(x.k=1\/x.k=2):=λh=>by rw [hq.2 h] at h1;cases h1
   refine ⟨λh3=>j2 hk12 _ ?_,λh3=>j2 hk12 _ ?_⟩
   ·rw [decide_eq_true_eq];exact ⟨λh=> .inl h,λ_=>h3⟩
   ·rw [decide_eq_true_eq];exact ⟨λh=> .inr h,λh=>h.resolve_left h3⟩
 refine ⟨_,ld (h.le _ _ q3) rfl,λh1=>j1 _ ?_,λh1=>j1 _ ?_⟩
 ·rw [decide_eq_true_eq];exact ⟨λh=> .inl h,λ_=>h1⟩
 ·rw [decide_eq_true_eq];exact ⟨λh=> .inr h,λh=>h.resolve_left h1⟩
theorem nY {F:PH} {v:Γ} {g:Gr} (hg:GV F v g) (i:Int) (h1:g.lvs.length<=1000000) (h2:∀x∈g.lvs,x.ps.length<=1000000):ai prog 137 #[.agg v,vi i] F λr F'=>r=.bool (decide (i∈g.lvs.flatMap Lv.ps))/\F.le F':=by
 obtain ⟨c,n,t,s,p,lv,f,rfl,hs⟩:=hg;have el:=hs.l.len (by decide);refine Rj ?_;unfold Ll;refine fresh λb2 F1 l1 q1 _=> ?_;replace hs:=hs.le l1;refine bz (vV · i b2 _) g.lvs.length (λk F'=>F1.le F'/\i ∉ (g.lvs.take k).flatMap Lv.ps) ⟨aq _,by simp⟩ ?_;rintro k F2 N hk ⟨l2,hni⟩ next;unfold vV;have p1:=l2 _ _ q1;refine ⟨_,ld p1 rfl,λhlt=> ?_,λhge=> ?_⟩
 ·have hlt:k<g.lvs.length:=by omega
  have hx:=N5 hlt;have hxm:=Wd hlt;generalize g.lvs[k]=x at hx hxm;obtain ⟨a,cc,ha,hr,hc⟩:=(hs.l.le l2).get (by decide) hx;obtain ⟨pp,nn,rfl,hps,_⟩:=hc;have eps:=hps.len (by decide);have hpl:=h2 x hxm;have hcell:∀{F':PH},F2.le F'->F'.cell (Addr.add a (Int.toNat (k:Int)*4))=some pp.v:=λl=>by rw [N4];exact aH l (be hr rfl)
  refine bz (vU N · i b2 (k:Int) _) x.ps.length (λj F'=>F2.le F'/\i ∉ x.ps.take j) ⟨aq _,by simp⟩ ?_;rintro j F3 N2 hj ⟨l3,hnj⟩ next2;unfold vU;have p3:=l3 _ _ p1;refine ⟨_,ld p3 rfl,a,ha,by omega,by omega,pp,hcell l3,λhlt2=>⟨_,ld p3 rfl,a,ha,by omega,by omega,pp,hcell l3,ixc (hps.le l3) (by decide) (by omega) (by omega) λa2 c2 y hy hr2 hc2=> ?_⟩,λhge2=> ?_⟩
  ·rw [N4] at hy;rw [show c2= #[vi y] from hc2] at hr2;refine ⟨y,be hr2 rfl,λhe=>⟨?_,aa l1 (aa l2 l3)⟩,λhe=> ?_⟩
   ·rw [decide_eq_true (WJ.2 ⟨x,hxm,by rw [<- he];exact UY hy⟩)]
   ·rw [aI (n:=x.ps.length) (by omega) (by omega)];refine next2 _ (by omega) ⟨l3,λhm=> ?_⟩;rw [bu hy] at hm;rcases UX.1 hm with h|h
    ·exact hnj h
    ·exact he (UU.1 h).symm
  ·have e:j=x.ps.length:=by omega
   subst e;rw [U7] at hnj;unfold BY;rw [aI hlt (by omega)];refine next _ hlt ⟨aa l2 l3,λhm=> ?_⟩;rw [bu hx,Wm] at hm;rcases UX.1 hm with h|h
   ·exact hni h
   ·simp at h;exact hnj h
 ·have e:k=g.lvs.length:=by omega
  subst e;rw [U7] at hni;unfold BX;exact ⟨by rw [decide_eq_false hni],aa l1 l2⟩
structure Ru where
 kind:Nat
 a:Nat
 b:Nat
 c:Nat
 cond:Nat
instance:Mem Ru where
 n:=5
 rep _ x c:=c= #[vB x.kind,vB x.a,vB x.b,vB x.c,vB x.cond]/\x.kind<256/\x.a<256/\x.b<256/\x.c<256/\x.cond<256
 len h:=by obtain ⟨rfl,_⟩:=h;rfl
 le _ h:=h
 st h:=by obtain ⟨rfl,_⟩:=h;simp [ak]
noncomputable abbrev ruD (g:Gr) (x:Ru):Dia:=dia (iY x.cond g.conds.length)
open Classical in
noncomputable def j7 (g:Gr) (x:Fi):Gr:=if bZ g x then {g with fils:=g.fils++[x]} else g
noncomputable def mW (g:Gr) (x:Ru):Gr:=
 if ((x.a % g.prods.length:Nat):Int)∈g.lvs.flatMap Lv.ps then g
 else {g with lvs:=g.lvs++[⟨((x.a % g.prods.length:Nat):Int)::(if x.b % g.prods.length≠x.a % g.prods.length/\((x.b % g.prods.length:Nat):Int) ∉ g.lvs.flatMap Lv.ps then [((x.b % g.prods.length:Nat):Int)] else []),((x.c % 4:Nat):Int),ruD g x⟩]}
noncomputable def tokG (g:Gr) (x:Ru):Gr:={g with toks:=g.toks.modify (x.a % 9) λt=>{t with cond:=ruD g x}}
noncomputable def ruleG (g:Gr) (x:Ru):Gr:=
 if x.kind % 8<2 then mW g x
 else if x.kind % 8<4 then j7 g ⟨((x.kind % 8 - 1:Nat):Int),((x.a % g.prods.length:Nat):Int),((x.c % 16:Nat):Int),((x.b % g.prods.length:Nat):Int),0,0,[],ruD g x⟩
 else if x.kind % 8<6 then j7 g ⟨((x.kind % 8 - 1:Nat):Int),0,0,0,((x.a % g.nons.length:Nat):Int),0,[((x.b % 9:Nat):Int)],ruD g x⟩
 else if x.kind % 8=6 then j7 g ⟨5,0,0,0,0,0,[5],ruD g x⟩
 else tokG g x
theorem cN.sz {α:Type} [Mem α] {F:PH} {l:List α} {vs:List Γ} (h:cN F l vs):∀d∈vs,d.size=Mem.n α:=by
 induction h with
 |nil=>intro d hd;cases hd
 |cons h _ ih=>
  intro d hd;rcases UT.1 hd with rfl|hd
  ·exact Mem.len h
  ·exact ih d hd
structure RK (F G:PH) (b3 b5:Nat) (g:Gr) (x:Ru) (c n t s p l f m:Sl):Prop where
 lF:F.le G
 q3:G b3=some (.cells #[vB x.kind,vB x.a,vB x.b,vB x.c,vB x.cond] 131)
 q5:G b5=some (.cells #[m.v,vi (ruD g x).2] 31)
 gs:GS G g c n t s p l f
 m:RL G m (ruD g x).1
theorem RK.le {F G G':PH} {b3 b5:Nat} {g:Gr} {x:Ru} {c n t s p l f m:Sl} (h:RK F G b3 b5 g x c n t s p l f m) (hl:G.le G'):RK F G' b3 b5 g x c n t s p l f m:=
 ⟨aa h.lF hl,hl _ _ h.q3,hl _ _ h.q5,h.gs.le hl,h.m.le hl⟩
theorem RK.gv {F G:PH} {b3 b5:Nat} {g:Gr} {x:Ru} {c n t s p l f m:Sl} (h:RK F G b3 b5 g x c n t s p l f m):GV G (g.arr c n t s p l f) g:=⟨c,n,t,s,p,l,f,rfl,h.gs⟩
section
variable {F G F1:PH} {b2 b3 b4 b5 b7 b8:Nat} {g g':Gr} {x:Ru} {c n t s p l f m:Sl}
theorem jf {w:Γ} (hF:F.le G) (hg:GV G w g') (st:St G F1 [pt b4 (.cells zG 37),pt b2 (.cells w 37)]):
  ∃v:Γ,v.size=9/\F1.row (Addr.mk b2 0 none) v/\au F1 (Addr.mk b4 0 none) 9 v λF2=>∃v:Γ,v.size=9/\F2.row (Addr.mk b4 0 none) v/\LR F g' (.agg v) F2:=by
 refine ⟨_,hg.size,st.whole1,?_⟩;refine st.put0 (w':=w) hg.size rfl hg.st λF3 h=> ?_;exact ⟨_,hg.size,h.whole0,⟨_,rfl,hg.le h.le⟩,aa hF h.le⟩
theorem uG {y:Fi} {ty my:Sl} (K:RK F G b3 b5 g x c n t s p l f m) (hf:g.fils.length<=1000000) (h1:y.cond.1.length<=1000000) (h2:y.toks.length<=1000) (ht:RL G ty y.toks) (hm:RL G my y.cond.1)
  (st:St G F1 [pt b7 (.cells (y.arr ty my) 156),pt b4 (.cells zG 37),pt b2 (.cells (g.arr c n t s p l f) 37)]):
  rE b2 b4 b7 (LR F (j7 g y)) F1:=by
 obtain ⟨_,_,T⟩:=NK;unfold rE;refine ⟨_,rfl,st.whole2,_,rfl,st.whole0,?_⟩;refine st.runv (yr K.gv ⟨ty,my,rfl,ht,hm⟩ h1 (by omega)) λG2 F2 l2 st=> ?_;replace K:=K.le l2;refine ⟨_,rfl,λhc=> ?_,λhc=> ?_⟩
 ·have e:j7 g y={g with fils:=g.fils++[y]}:=by unfold j7;rw [if_pos (show bZ g y by simpa using hc)]
  rw [e];refine ⟨_,st.ld2 rfl,_,rfl,st.whole0,?_⟩;refine St.grow T st K.gs.f (y:=y) ⟨ty,my,rfl,ht.le l2,hm.le l2⟩ hf rfl (λG' F' st=>st.whole0) λs' G' F' l' hs' st=> ?_;replace K:=K.le l';refine st.set2 (w':=Gr.arr {g with fils:=g.fils++[y]} c n t s p l s') (by show 8<9;decide) rfl λF6 st=> ?_;unfold nI;exact jf K.lF ⟨c,n,t,s,p,l,s',rfl,K.gs.c,K.gs.n,K.gs.t,K.gs.s,K.gs.p,K.gs.l,hs'⟩ st.tail
 ·have e:j7 g y=g:=by unfold j7;rw [if_neg (show ¬bZ g y by simpa using hc)]
  rw [e];unfold nI;exact jf K.lF K.gv st.tail
theorem AL {y:Lv} {sy my:Sl} (K:RK F G b3 b5 g x c n t s p l f m) (hl:g.lvs.length<=1000000) (hy:RL G sy y.ps) (hm:RL G my y.cond.1)
  (st:St G F1 [pt b8 (.cells (y.arr sy my) 69),pt b4 (.cells zG 37),pt b2 (.cells (g.arr c n t s p l f) 37)]):
  vN b2 b4 b8 (LR F {g with lvs:=g.lvs++[y]}) F1:=by
 obtain ⟨_,_,T⟩:=NJ;unfold vN;refine ⟨_,st.ld2 rfl,_,rfl,st.whole0,?_⟩;refine St.grow T st K.gs.l (y:=y) ⟨sy,my,rfl,hy,hm⟩ hl rfl (λG' F' st=>st.whole0) λs' G' F' l' hs' st=> ?_;replace K:=K.le l';refine st.set2 (w':=Gr.arr {g with lvs:=g.lvs++[y]} c n t s p s' f) (by show 7<9;decide) rfl λF6 st=> ?_;unfold nJ;exact jf K.lF ⟨c,n,t,s,p,s',f,rfl,K.gs.c,K.gs.n,K.gs.t,K.gs.s,K.gs.p,hs',K.gs.f⟩ st.tail
end
theorem Cj {α:Type} (l:List α) (i:Nat) (f:α->α) {x:α} (hx:l[i]? =some x):l.modify i f=l.set i (f x):=by
 apply VI;intro j;rw [Wg,V6];by_cases e:i=j
 ·subst e;obtain ⟨hlt,rfl⟩:=N6.1 hx;simp [hlt]
 ·simp [e]
structure RH (g:Gr) (x:Ru):Prop where
 ka:x.kind<256
 a:x.a<256
 b:x.b<256
 c:x.c<256
 pl:g.prods.length<=1000000
 p0:g.prods.length≠0
 nl:g.nons.length<=1000000
 n0:g.nons.length≠0
 tl:g.toks.length<=1000000
 t9:9<=g.toks.length
 ll:g.lvs.length<=1000000
 lp:∀y∈g.lvs,y.ps.length<=1000000
 fl:g.fils.length<=1000000
 dl:(ruD g x).1.length<=1000000
section
variable {F G F1:PH} {b2 b3 b4 b5 b7 b8:Nat} {g g':Gr} {x:Ru} {c n t s p l f m:Sl}
noncomputable abbrev f0 (g:Gr) (x:Ru):Fi:=⟨0,0,0,0,0,0,[],ruD g x⟩
theorem wN {a b:Nat} (ha:a<256):Int.tmod (i64.wrap (a:Int)) (b:Int)=((a % b:Nat):Int):=by rw [aS (by omega) (by omega),fV]
theorem AM (K:RK F G b3 b5 g x c n t s p l f m) (H:RH g x) {q:Bool} (hk:4<=x.kind % 8) (hq:q=true↔(x.kind % 8=4\/x.kind % 8=5))
  (st:St G F1 [pt b7 (.cells ((f0 g x).arr Sl.nil m) 156),pt b4 (.cells zG 37),pt b2 (.cells (g.arr c n t s p l f) 37)]):
  vP b2 b3 b4 b5 b7 (x.kind:Int) q (LR F (ruleG g x)) F1:=by
 have es:=K.gs.s.len (by decide);have et:=K.gs.t.len (by decide);have e8:Int.tmod (x.kind:Int) 8=((x.kind % 8:Nat):Int):=fV x.kind 8;have ka:=H.ka;unfold vP;refine ⟨λh1=> ?_,λh1=> ?_⟩
 ·have hk45:=hq.1 h1;have e:ruleG g x=j7 g ⟨((x.kind % 8 - 1:Nat):Int),0,0,0,((x.a % g.nons.length:Nat):Int),0,[((x.b % 9:Nat):Int)],ruD g x⟩:=by unfold ruleG;rw [if_neg (by omega),if_neg (by omega),if_pos (by omega)]
  rw [e];refine ⟨_,ld (st.le _ _ K.q3) rfl,?_⟩;dsimp only;rw [e8,show i64.wrap ((x.kind % 8:Nat):Int)=((x.kind % 8:Nat):Int) from aS (by omega) (by omega),show i64.wrap ((3:Int)+((x.kind % 8:Nat):Int))=(3:Int)+((x.kind % 8:Nat):Int) from aS (by omega) (by omega),show i64.wrap ((3:Int)+((x.kind % 8:Nat):Int) - 4)=((x.kind % 8 - 1:Nat):Int) by rw [aS (by omega) (by omega)];omega];refine st.set0 (w':=Fi.arr ⟨((x.kind % 8 - 1:Nat):Int),0,0,0,0,0,[],ruD g x⟩ Sl.nil m) (by show 0<9;decide) rfl λF2 st=> ?_;refine ⟨_,ld (st.le _ _ K.q3) rfl,_,st.ld2 rfl,by have:=H.n0;omega,?_⟩;rw [es,wN H.a];refine st.set0 (w':=Fi.arr ⟨((x.kind % 8 - 1:Nat):Int),0,0,0,((x.a % g.nons.length:Nat):Int),0,[],ruD g x⟩ Sl.nil m) (by show 4<9;decide) rfl λF3 st=> ?_;refine ⟨_,ld (st.le _ _ K.q3) rfl,?_⟩;dsimp only;rw [show Int.tmod (i64.wrap (x.b:Int)) (9:Int)=((x.b % 9:Nat):Int) from wN (b:=9) H.b];refine st.newG λb137 G2 F4 l2 q _ st=> ?_;refine st.set0 (w':=Fi.arr ⟨((x.kind % 8 - 1:Nat):Int),0,0,0,((x.a % g.nons.length:Nat):Int),0,[((x.b % 9:Nat):Int)],ruD g x⟩ (Sl.mk (some (Addr.mk b137 0 none)) 1 1) m) (by show 6<9;decide) rfl λF5 st=> ?_;exact uG (y:=⟨((x.kind % 8 - 1:Nat):Int),0,0,0,((x.a % g.nons.length:Nat):Int),0,[((x.b % 9:Nat):Int)],ruD g x⟩) (K.le l2) H.fl H.dl (by simp) (eX q) (K.m.le l2) st
 ·have hn45:¬(x.kind % 8=4\/x.kind % 8=5):=λh=>by rw [hq.2 h] at h1;cases h1
  rw [e8];refine ⟨λh6=> ?_,λh6=> ?_⟩
  ·have e:ruleG g x=j7 g ⟨5,0,0,0,0,0,[5],ruD g x⟩:=by unfold ruleG;rw [if_neg (by omega),if_neg (by omega),if_neg (by omega),if_pos (by omega)]
   rw [e];refine st.set0 (w':=Fi.arr ⟨5,0,0,0,0,0,[],ruD g x⟩ Sl.nil m) (by show 0<9;decide) rfl λF2 st=> ?_;refine st.newG λb142 G2 F4 l2 q _ st=> ?_;refine st.set0 (w':=Fi.arr ⟨5,0,0,0,0,0,[5],ruD g x⟩ (Sl.mk (some (Addr.mk b142 0 none)) 1 1) m) (by show 6<9;decide) rfl λF5 st=> ?_;exact uG (y:=⟨5,0,0,0,0,0,[5],ruD g x⟩) (K.le l2) H.fl H.dl (by simp) (eX q) (K.m.le l2) st
  ·have e:ruleG g x=tokG g x:=by unfold ruleG;rw [if_neg (by omega),if_neg (by omega),if_neg (by omega),if_neg (by omega)]
   rw [e];obtain ⟨_,_,T⟩:=LV;have ht9:=H.t9;have htl:=H.tl;have h9:x.a % 9<9:=VU _ (by decide);obtain ⟨vs,hr,hrd⟩:=K.gs.t;have hx:=N5 (show x.a % 9<g.toks.length by omega);generalize g.toks[x.a % 9]=y at hx;obtain ⟨w,hw1,hw2,_⟩:=hr.get hx;refine st.new λb29 F2 st=> ?_;have st:=st.imp (A':=own (Sl.mk (some (Addr.mk b29 0 none)) 0 0) 146 7 []) 0 rfl λH _ hH=>jB hH;refine ⟨_,st.ld3 rfl,?_⟩;refine St.app0 T st (hrd.le st.le) hr.st (by show 0+t.len<=_;omega) λs1 F3 st hl1=> ?_;rw [Vt] at st;refine ⟨_,ld (st.le _ _ K.q3) rfl,_,rfl,ac (st.le _ _ K.q5),?_⟩;rw [show Int.tmod (i64.wrap (x.a:Int)) (9:Int)=((x.a % 9:Nat):Int) from wN (b:=9) H.a];refine st.elN 0 rfl hr.sz hw1 (by decide) rfl (by show 5+2<=7;decide) (by simp [ak,Sl.v]) λF4 st=> ?_;obtain ⟨pp,nn,rfl,hp1,hp2⟩:=hw2;have hy':Mem.rep G {y with cond:=ruD g x} (wr (y.arr pp nn) 5 (#[m.v,vi (ruD g x).2]:Γ).toList):=⟨pp,m,rfl,hp1,K.m⟩;refine st.pinOwn (K:=λF4=>sto F4 (Addr.mk b2 3 none) (Sl.v s1) _) λG5 l5 hrd5 st=> ?_;replace K:=K.le l5;have hs1:RL G5 s1 (tokG g x).toks:=by show RL G5 s1 (g.toks.modify (x.a % 9) λt=>{t with cond:=ruD g x});rw [Cj _ _ _ hx];exact ⟨_,(hr.set hy').le l5,hrd5⟩
   refine st.set2 (w':=Gr.arr (tokG g x) c n s1 s p l f) (by show 3<9;decide) rfl λF6 st=> ?_;exact jf (g':=tokG g x) K.lF ⟨c,n,s1,s,p,l,f,rfl,K.gs.c,K.gs.n,hs1,K.gs.s,K.gs.p,K.gs.l,K.gs.f⟩ st.tail
theorem AN (K:RK F G b3 b5 g x c n t s p l f m) (H:RH g x) {q:Bool} (hk:2<=x.kind % 8) (hq:q=true↔(x.kind % 8=2\/x.kind % 8=3))
  (st:St G F1 [pt b7 (.cells ((f0 g x).arr Sl.nil m) 156),pt b4 (.cells zG 37),pt b2 (.cells (g.arr c n t s p l f) 37)]):
  vQ b2 b3 b4 b5 (x.a:Int) p b7 (x.kind:Int) q (LR F (ruleG g x)) F1:=by
 have ep:=K.gs.p.len (by decide);have e8:Int.tmod (x.kind:Int) 8=((x.kind % 8:Nat):Int):=fV x.kind 8;have ka:=H.ka;unfold vQ;refine ⟨λh1=> ?_,λh1=> ?_⟩
 ·have hk23:=hq.1 h1;have e:ruleG g x=j7 g ⟨((x.kind % 8 - 1:Nat):Int),((x.a % g.prods.length:Nat):Int),((x.c % 16:Nat):Int),((x.b % g.prods.length:Nat):Int),0,0,[],ruD g x⟩:=by unfold ruleG;rw [if_neg (by omega),if_pos (by omega)]
  rw [e];refine ⟨_,ld (st.le _ _ K.q3) rfl,?_⟩;dsimp only;rw [e8,show i64.wrap ((x.kind % 8:Nat):Int)=((x.kind % 8:Nat):Int) from aS (by omega) (by omega),show i64.wrap ((1:Int)+((x.kind % 8:Nat):Int))=(1:Int)+((x.kind % 8:Nat):Int) from aS (by omega) (by omega),show i64.wrap ((1:Int)+((x.kind % 8:Nat):Int) - 2)=((x.kind % 8 - 1:Nat):Int) by rw [aS (by omega) (by omega)];omega];refine st.set0 (w':=Fi.arr ⟨((x.kind % 8 - 1:Nat):Int),0,0,0,0,0,[],ruD g x⟩ Sl.nil m) (by show 0<9;decide) rfl λF2 st=> ?_;rw [ep,wN H.a];refine st.set0 (w':=Fi.arr ⟨((x.kind % 8 - 1:Nat):Int),((x.a % g.prods.length:Nat):Int),0,0,0,0,[],ruD g x⟩ Sl.nil m) (by show 1<9;decide) rfl λF3 st=> ?_;refine ⟨_,ld (st.le _ _ K.q3) rfl,?_⟩;dsimp only;rw [show Int.tmod (i64.wrap (x.c:Int)) (16:Int)=((x.c % 16:Nat):Int) from wN (b:=16) H.c];refine st.set0 (w':=Fi.arr ⟨((x.kind % 8 - 1:Nat):Int),((x.a % g.prods.length:Nat):Int),((x.c % 16:Nat):Int),0,0,0,[],ruD g x⟩ Sl.nil m) (by show 2<9;decide) rfl λF4 st=> ?_;refine ⟨_,ld (st.le _ _ K.q3) rfl,_,st.ld2 rfl,by have:=H.p0;omega,?_⟩;rw [ep,wN H.b];refine st.set0 (w':=Fi.arr ⟨((x.kind % 8 - 1:Nat):Int),((x.a % g.prods.length:Nat):Int),((x.c % 16:Nat):Int),((x.b % g.prods.length:Nat):Int),0,0,[],ruD g x⟩ Sl.nil m) (by show 3<9;decide) rfl λF5 st=> ?_;exact uG (y:=⟨((x.kind % 8 - 1:Nat):Int),((x.a % g.prods.length:Nat):Int),((x.c % 16:Nat):Int),((x.b % g.prods.length:Nat):Int),0,0,[],ruD g x⟩) K H.fl H.dl (by simp) (.nil _) K.m st
 ·have hn23:¬(x.kind % 8=2\/x.kind % 8=3):=λh=>by rw [hq.2 h] at h1;cases h1
  rw [e8];refine ⟨λh4=>AM K H (by omega) ?_ st,λh4=>AM K H (by omega) ?_ st⟩
  ·rw [decide_eq_true_eq];omega
  ·rw [decide_eq_true_eq];omega
theorem AO (K:RK F G b3 b5 g x c n t s p l f m) (H:RH g x) {q:Bool} (hq:q=true↔(x.kind % 8=0\/x.kind % 8=1))
  (st:St G F1 [pt b7 (.cells ((f0 g x).arr Sl.nil m) 156),pt b4 (.cells zG 37),pt b2 (.cells (g.arr c n t s p l f) 37)]):
  vR b2 b3 b4 b5 (x.a:Int) p b7 (x.kind:Int) q (LR F (ruleG g x)) F1:=by
 have ep:=K.gs.p.len (by decide);have e8:Int.tmod (x.kind:Int) 8=((x.kind % 8:Nat):Int):=fV x.kind 8;unfold vR;refine ⟨λh1=> ?_,λh1=> ?_⟩
 ·have hk01:=hq.1 h1;have e:ruleG g x=mW g x:=by unfold ruleG;rw [if_pos (by omega)]
  rw [e,ep,wN H.a];refine ⟨_,rfl,st.whole2,?_⟩;refine st.runv (nY K.gv _ H.ll H.lp) λG2 F2 l2 st=> ?_;replace K:=K.le l2;refine ⟨_,rfl,λhc=> ?_,λhc=> ?_⟩
  ·have hna:((x.a % g.prods.length:Nat):Int) ∉ g.lvs.flatMap Lv.ps:=by simpa using hc
   refine st.new λb52 F3 st=> ?_;have st:=st.imp (A':=own (Sl.mk (some (Addr.mk b52 0 none)) 1 1) 3 1 [vi ((x.a % g.prods.length:Nat):Int)]) 0 rfl λH _ hH=> .inr ⟨b52,_,rfl,hH,rfl,UW _,rfl,rfl⟩;refine ⟨_,ld (st.le _ _ K.q3) rfl,_,rfl,ac (st.le _ _ K.q5),rfl,?_⟩;rw [show Int.tmod (x.c:Int) (4:Int)=((x.c % 4:Nat):Int) from fV x.c 4,show i64.wrap ((x.c % 4:Nat):Int)=((x.c % 4:Nat):Int) from aS (by omega) (by omega)];refine st.new λb8 F4 st=> ?_;refine st.put0 (w':=Lv.arr ⟨[((x.a % g.prods.length:Nat):Int)],((x.c % 4:Nat):Int),ruD g x⟩ (Sl.mk (some (Addr.mk b52 0 none)) 1 1) m) rfl rfl (by simp [ak,Sl.v]) λF5 st=> ?_;refine ⟨_,ld (st.le _ _ K.q3) rfl,_,st.ld4 rfl,by have:=H.p0;omega,?_⟩;have j6:∀{G F':PH} {q6:Bool},RK F G b3 b5 g x c n t s p l f m->(q6=true↔(x.b % g.prods.length≠x.a % g.prods.length/\((x.b % g.prods.length:Nat):Int) ∉ g.lvs.flatMap Lv.ps))->
     St G F' [pt b8 (.cells (Lv.arr ⟨[((x.a % g.prods.length:Nat):Int)],((x.c % 4:Nat):Int),ruD g x⟩ (Sl.mk (some (Addr.mk b52 0 none)) 1 1) m) 69),own (Sl.mk (some (Addr.mk b52 0 none)) 1 1) 3 1 [vi ((x.a % g.prods.length:Nat):Int)],pt b7 (.cells ((f0 g x).arr Sl.nil m) 156),pt b4 (.cells zG 37),pt b2 (.cells (g.arr c n t s p l f) 37)]->
     vO b2 b4 b8 (x.b:Int) p q6 (LR F (mW g x)) F':=λ{G F' q6} K hq6 st=>by
    unfold vO;refine ⟨λh6=> ?_,λh6=> ?_⟩
    ·have e2:mW g x={g with lvs:=g.lvs++[⟨[((x.a % g.prods.length:Nat):Int),((x.b % g.prods.length:Nat):Int)],((x.c % 4:Nat):Int),ruD g x⟩]}:=by unfold mW;rw [if_neg hna,if_pos (hq6.1 h6)]
     rw [e2];refine ⟨_,st.ld0 rfl,?_⟩;rw [ep,wN H.b];refine st.push1 Jw (c:= #[vi ((x.b % g.prods.length:Nat):Int)]) rfl (by simp [ak]) (by show 1<=400000000000;decide) λs' G7 F7 l7 st hl7=> ?_;refine st.set0 (w':=Lv.arr ⟨[((x.a % g.prods.length:Nat):Int),((x.b % g.prods.length:Nat):Int)],((x.c % 4:Nat):Int),ruD g x⟩ s' m) (by show 0<4;decide) rfl λF8 st=> ?_;obtain ⟨G9,l9,⟨H9,hA,hH⟩,st⟩:=st.front1.pin;have hps:RL G9 s' [((x.a % g.prods.length:Nat):Int),((x.b % g.prods.length:Nat):Int)]:=RL.ints.2 ((cf.rd hA).le hH);replace K:=K.le (aa l7 l9);have st:=st.front1.tail;exact AL (y:=⟨[((x.a % g.prods.length:Nat):Int),((x.b % g.prods.length:Nat):Int)],((x.c % 4:Nat):Int),ruD g x⟩) K H.ll hps K.m st
    ·have hn6:¬(x.b % g.prods.length≠x.a % g.prods.length/\((x.b % g.prods.length:Nat):Int) ∉ g.lvs.flatMap Lv.ps):=λh=>by rw [hq6.2 h] at h6;cases h6
     have e2:mW g x={g with lvs:=g.lvs++[⟨[((x.a % g.prods.length:Nat):Int)],((x.c % 4:Nat):Int),ruD g x⟩]}:=by unfold mW;rw [if_neg hna,if_neg hn6]
     rw [e2];obtain ⟨G9,l9,⟨H9,hA,hH⟩,st⟩:=st.front1.pin;have hps:RL G9 (Sl.mk (some (Addr.mk b52 0 none)) 1 1) [((x.a % g.prods.length:Nat):Int)]:=RL.ints.2 ((cf.rd hA).le hH);replace K:=K.le l9;have st:=st.front1.tail;exact AL (y:=⟨[((x.a % g.prods.length:Nat):Int)],((x.c % 4:Nat):Int),ruD g x⟩) K H.ll hps K.m st
   rw [ep,wN H.b];refine ⟨λhne=>⟨_,rfl,st.whole4,?_⟩,λheq=>j6 K ?_ st⟩
   ·refine st.runv (nY K.gv _ H.ll H.lp) λG6 F6 l6 st=> ?_;refine ⟨_,rfl,j6 (K.le l6) ?_ st⟩;simp only [Bool.not_eq_true',decide_eq_false_iff_not];exact ⟨λh=>⟨λe=>hne (by rw [e]),h⟩,λh=>h.2⟩
   ·have heq:x.b % g.prods.length=x.a % g.prods.length:=by omega
    exact ⟨λh=>(by cases h),λh=>absurd heq h.1⟩
  ·have e2:mW g x=g:=by unfold mW;rw [if_pos (by simpa using hc)]
   rw [e2];unfold nJ;exact jf K.lF K.gv st.tail
 ·have hn01:¬(x.kind % 8=0\/x.kind % 8=1):=λh=>by rw [hq.2 h] at h1;cases h1
  rw [e8];refine ⟨λh4=>AN K H (by omega) ?_ st,λh4=>AN K H (by omega) ?_ st⟩
  ·rw [decide_eq_true_eq];omega
  ·rw [decide_eq_true_eq];omega
end
theorem yt {F:PH} {w v:Γ} {g:Gr} {x:Ru} (hg:GV F w g) (hx:Mem.rep F x v) (H:RH g x) (hn:g.conds.length<=6):
  ai prog 84 #[.agg w,.agg v] F (LR F (ruleG g x)):=by
 obtain ⟨c,n,t,s,p,l,f,rfl,hs⟩:=hg;obtain ⟨rfl,hx0,hx1,hx2,hx3,hx4⟩:=hx;have ec:=hs.c.len (by decide);have ep:=hs.p.len (by decide);refine Ub ?_;unfold Q9;refine (St.start F).new λb2 F1 st=> ?_;refine st.newG λb3 G1 F2 l1 q3 _ st=> ?_;refine st.new λb4 F3 st=> ?_;refine ⟨_,ld (st.le _ _ q3) rfl,_,st.ld1 rfl,?_⟩;dsimp only;rw [ec];refine st.run (qn x.cond g.conds.length hx4 hn _) λ_ G2 F4 hr l2 st=> ?_;obtain ⟨⟨_,rfl,hw⟩,-⟩:=hr;obtain ⟨m,rfl,hm⟩:=hw.out;refine ⟨_,rfl,?_⟩;refine st.var (w:= #[m.v,vi (ruD g x).2]) (by simp [ak,Sl.v]) (λb5 G3 F5 l3 q5 st=> ?_) rfl rfl;have l23:=aa l2 l3;have l13:=aa l1 l23;have K:RK F G3 b3 b5 g x c n t s p l f m:=⟨l13,l23 _ _ q3,q5,hs.le l13,hm.le l3⟩;refine ⟨_,ld (st.le _ _ K.q3) rfl,_,st.ld1 rfl,by have:=H.p0;omega,_,rfl,ac (st.le _ _ K.q5),rfl,?_⟩;refine st.new λb7 F6 st=> ?_;refine st.put0 (w':=(f0 g x).arr Sl.nil m) rfl rfl (by simp [ak,Sl.v]) λF7 st=> ?_;have e8:Int.tmod (x.kind:Int) 8=((x.kind % 8:Nat):Int):=fV x.kind 8;refine ⟨_,ld (st.le _ _ K.q3) rfl,?_⟩;dsimp only;rw [e8];refine ⟨λh4=>AO K H ?_ st,λh4=>AO K H ?_ st⟩
 ·rw [decide_eq_true_eq];omega
 ·rw [decide_eq_true_eq];omega
end Go.Proofs.YtcemhghkipgdiaaGreatDoor
