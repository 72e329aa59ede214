/-
  A rule of a description becomes a level, a filter, or a condition: the walk of withRule.
-/
import Derived.Test.YtenpmjhnhepfdaaGreatDoorIk
import Derived.Test.YtenpmjhnhepfdaaGreatDoorHb
namespace Go.Proofs.YtenpmjhnhepfdaaGreatDoor
open Go Go.Proofs.Tryz Tr
set_option maxRecDepth 10000
theorem AX {F:PH} {v:Array Value} {d:Dia} {n:Nat} (hd:DV F v d) (hf:Fit (d.1.length+4)) (hl:d.1.length≤1000000):ac prog 175 #[.agg v,vi n] F fun r F'=>r=.bool (og d n)∧F.le F':=by
 obtain ⟨s,rfl,hr⟩:=hd.out
 refine Oi ?_
 unfold HW
 refine (St.start F).newG fun b2 G1 F1 l1 q1 _ h=> ?_
 refine ⟨_,rfl,ak (h.le _ _ q1),?_⟩
 refine h.runv (zX (DV.mk (hr.le l1)) hf) fun G2 F2 l2 h=> ?_
 have l12:=aa l1 l2
 have er:=hr.len (by decide)
 refine ⟨_,rfl,fun hc=>⟨?_,aa l12 h.le⟩,fun hc=> ?_⟩
 ·have:og d n=false:=sj.2 fun hg=>hc hg.1
  rw [this]
 have hc:chk d=0:=Classical.not_not.1 hc
 refine bW (tG · (n:Int) b2 _) d.1.length (fun k F'=>G2.le F'∧∀b∈d.1.take k,b.v<n) ⟨h.le,by simp⟩ ?_
 rintro k F3 N hk ⟨l3,hall⟩ next
 unfold tG
 have p1:=l3 _ _ (l2 _ _ q1)
 have l13:=aa l12 l3
 refine ⟨_,ld p1 rfl,fun hlt=>⟨_,ld p1 rfl,ixc (hr.le l13) (by decide) (by omega) hlt fun a cc x hx hrow hcx=> ?_⟩,fun hge=> ?_⟩
 ·rw [Int.toNat_natCast] at hx
  rw [show cc=aP x from hcx] at hrow
  refine ⟨x.v,aJ hrow rfl,fun hb=>⟨?_,l13⟩,fun hb=> ?_⟩
  ·have:og d n=false:=sj.2 fun hg=>by have:=hg.2 x (List.mem_of_getElem? hx);omega
   rw [this]
  ·rw [aQ (n:=d.1.length) (by omega) (by omega)]
   refine next _ (by omega) ⟨l3,fun b hb'=> ?_⟩
   rw [be hx] at hb'
   rcases List.mem_append.1 hb' with h|h
   ·exact hall b h
   ·rw [List.mem_singleton.1 h];omega
 ·have e:k=d.1.length:=by omega
  subst e
  rw [List.take_length] at hall
  unfold yS
  exact ⟨by rw [bZ.2 ⟨hc,hall⟩],l13⟩
def fk (x:Fi):Prop:=((x.k=1∨x.k=2)∨(x.par=0∧x.pos=0∧x.ch=0))∧((x.k=1∨x.k=2)→x.toks=[])∧((x.k=3∨x.k=4)∨x.left=0)∧(x.k=5∨x.tok=0)
open Classical in
theorem zj {F:PH} {w:Array Value} {x:Fi} (hx:Mem.rep F x w):ac prog 176 #[.agg w] F fun r F'=>r=.bool (decide (fk x))∧F.le F':=by
 obtain ⟨tt,nn,rfl,ht,_⟩:=hx
 have et:=ht.len (by decide)
 refine Oj ?_
 unfold HX
 refine fresh fun b1 F1 l1 q _=> ?_
 have R:∀{b:Bool},(b=true↔fk x)→(Value.bool b=.bool (decide (fk x))∧F.le F1):=fun {b} h=>⟨by congr 1;rw [Bool.eq_iff_iff,h,decide_eq_true_eq],l1⟩
 have no:¬fk x→(Value.bool false=.bool (decide (fk x))∧F.le F1):=fun h=>R ⟨fun h=>(by cases h),fun hp=>absurd hp h⟩
 have tl:(x.toks=[])↔¬(0:Int)<(tt.len:Int):=by
  rw [et]
  constructor
  ·intro h;rw [h];simp
  ·intro h;exact List.eq_nil_of_length_eq_zero (by omega)
 have j3:∀beside:Bool,(beside=true↔(x.k=3∨x.k=4))→((x.k=1∨x.k=2)∨(x.par=0∧x.pos=0∧x.ch=0))→((x.k=1∨x.k=2)→x.toks=[])→
   nG b1 beside (fun r F'=>r=.bool (decide (fk x))∧F.le F') F1:=fun beside hb h1 h2=>by
  unfold nG
  refine ⟨fun hb1=>⟨_,ld q rfl,fun h5=>R ⟨fun _=>⟨h1,h2,.inl (hb.1 hb1),.inl h5⟩,fun _=>rfl⟩,fun h5=>⟨_,ld q rfl,R ?_⟩⟩,fun hb1=>⟨_,ld q rfl,fun h0=>⟨_,ld q rfl,fun h5=>R ⟨fun _=>⟨h1,h2,.inr h0,.inl h5⟩,fun _=>rfl⟩,fun h5=>⟨_,ld q rfl,R ?_⟩⟩,fun h0=>no fun hp=> ?_⟩⟩
  ·rw [decide_eq_true_eq]
   exact ⟨fun h=>⟨h1,h2,.inl (hb.1 hb1),.inr h⟩,fun hp=>hp.2.2.2.resolve_left h5⟩
  ·rw [decide_eq_true_eq]
   exact ⟨fun h=>⟨h1,h2,.inr h0,.inr h⟩,fun hp=>hp.2.2.2.resolve_left h5⟩
  ·rcases hp.2.2.1 with h|h
   ·rw [hb.2 h] at hb1;cases hb1
   ·exact h0 h
 have j2:((x.k=1∨x.k=2)∨(x.par=0∧x.pos=0∧x.ch=0))→((x.k=1∨x.k=2)→x.toks=[])→iW b1 (fun r F'=>r=.bool (decide (fk x))∧F.le F') F1:=fun h1 h2=>by
  unfold iW
  refine ⟨_,ld q rfl,fun h3=>j3 true ⟨fun _=> .inl h3,fun _=>rfl⟩ h1 h2,fun h3=>⟨_,ld q rfl,j3 _ ?_ h1 h2⟩⟩
  rw [decide_eq_true_eq]
  exact ⟨fun h=> .inr h,fun h=>h.resolve_left h3⟩
 have j1:∀pr:Bool,(pr=true↔(x.k=1∨x.k=2))→nH b1 pr (fun r F'=>r=.bool (decide (fk x))∧F.le F') F1:=fun pr hpr=>by
  unfold nH
  cases pr with
  |true=>
   have hk:=hpr.1 rfl
   exact ⟨fun h=>(by cases h),fun _=>⟨fun _=>⟨_,ld q rfl,fun h=>no fun hp=>tl.1 (hp.2.1 hk) h,fun h=>j2 (.inl hk) fun _=>tl.2 h⟩,fun h=>(by cases h)⟩⟩
  |false=>
   have hk:¬(x.k=1∨x.k=2):=fun h=>by have:=hpr.2 h;cases this
   refine ⟨fun _=>⟨_,ld q rfl,fun h=>no fun hp=>h (hp.1.resolve_left hk).1,fun h1=>⟨_,ld q rfl,fun h=>no fun hp=>h (hp.1.resolve_left hk).2.1,fun h2=>⟨_,ld q rfl,fun h=>no fun hp=>h (hp.1.resolve_left hk).2.2,fun h3=>⟨fun h=>(by cases h),fun _=>j2 (.inr ⟨Classical.not_not.1 h1,Classical.not_not.1 h2,Classical.not_not.1 h3⟩) fun h=>absurd h hk⟩⟩⟩⟩,fun h=>(by cases h)⟩
 refine ⟨_,ld q rfl,fun h=>j1 true ⟨fun _=> .inl h,fun _=>rfl⟩,fun h=>⟨_,ld q rfl,j1 _ ?_⟩⟩
 rw [decide_eq_true_eq]
 exact ⟨fun h=> .inr h,fun h'=>h'.resolve_left h⟩
def iY (lit:Bool) (t:Tk):Bool:=if lit then !decide (t.lit=emp) else decide (t.cls=0)
open Classical in
theorem qz {F:PH} {v:Array Value} {g:Gr} (hg:GV F v g) {sl:Sl} {l:List Int} (hl:RL F sl l) (hll:l.length≤1000000000) (lit:Bool):ac prog 177 #[.agg v,sl.v,.bool lit] F fun r F'=>r=.bool (decide (eK g (iY lit) l))∧F.le F':=by
 obtain ⟨c,n,t,s,p,lv,f,rfl,hs⟩:=hg
 have et:=hs.t.len (by decide)
 have el:=hl.len (by decide)
 refine Ok ?_
 unfold HY
 refine fresh fun b1 F1 l1 q1 _=> ?_
 replace hs:=hs.le l1
 replace hl:=hl.le l1
 have no:∀{F':PH},F1.le F'→¬eK g (iY lit) l→(Value.bool false=.bool (decide (eK g (iY lit) l))∧F.le F'):=fun {F'} l h=>⟨by rw [decide_eq_false h],aa l1 l⟩
 refine bW (tH · sl lit b1 _) l.length (fun j F'=>F1.le F'∧(∀n∈l.take j,0≤n∧∃t,g.toks[n.toNat]? =some t∧iY lit t=true)∧∀(i:Nat) (x y:Int),i+1<j→l[i]? =some x→l[i+1]? =some y→x<y)
  ⟨le_refl' _,by simp,fun i x y h=>by omega⟩ ?_
 rintro j F2 N hj ⟨l2,i1,i2⟩ next
 unfold tH
 refine ⟨fun hlt=> ?_,fun hge=> ?_⟩
 ·have hlt:j<l.length:=by omega
  have hx:=List.getElem?_eq_getElem hlt
  generalize l[j]=x at hx
  obtain ⟨a,cc,ha,hr,hc⟩:=(hl.le l2).get (by decide) hx
  rw [show cc= #[vi x] from hc] at hr
  have hcell:F2.cell (Addr.add a (Int.toNat (j:Int)*1))=some (vi x):=by rw [Int.toNat_natCast];exact aJ hr rfl
  have hxm:x∈l:=List.mem_of_getElem? hx
  have p1:=l2 _ _ q1
  have noR:¬(0≤x∧x<g.toks.length)→(Value.bool false=.bool (decide (eK g (iY lit) l))∧F.le F2):=fun h=>no l2 fun hp=>by
   obtain ⟨h0,t',ht,_⟩:=hp.2.1 x hxm
   have:=(List.getElem?_eq_some_iff.1 ht).1
   exact h ⟨h0,by omega⟩
  refine ⟨a,ha,by omega,by omega,x,hcell,fun h=>noR (by omega),fun x0=>⟨a,ha,by omega,by omega,x,hcell,_,ld p1 rfl,fun h=>noR (by omega),fun x1=> ?_⟩⟩
  have body:(∀y,0<j→l[j - 1]? =some y→y<x)→nJ N sl lit b1 (j:Int) (fun r F'=>r=.bool (decide (eK g (iY lit) l))∧F.le F') F2:=fun hprev=>by
   unfold nJ
   refine ⟨_,ld p1 rfl,a,ha,by omega,by omega,x,hcell,ixc (hs.t.le l2) (by decide) (by omega) (by omega) fun a2 c2 y hy hr2 hc2=>⟨c2,Mem.len hc2,hr2,?_⟩⟩
   refine Is (Mem.st hc2) (fun b F3 l3 q3=> ?_) rfl (Mem.len hc2)
   have l23:=aa l2 l3
   obtain ⟨pp,nn,rfl,_,_⟩:=hc2
   have bad:iY lit y=false→(Value.bool false=.bool (decide (eK g (iY lit) l))∧F.le F3):=fun hk=>no l23 fun hp=>by
    obtain ⟨h0,t',ht,hk'⟩:=hp.2.1 x hxm
    rw [hy] at ht
    cases ht
    rw [hk'] at hk
    cases hk
   have good:iY lit y=true→nI N sl lit b1 (j:Int) (fun r F'=>r=.bool (decide (eK g (iY lit) l))∧F.le F') F3:=fun hk=>by
    unfold nI
    rw [aQ hlt (by omega)]
    refine next _ hlt ⟨l23,fun m hm=> ?_,fun i u w hi hu hw=> ?_⟩
    ·rw [be hx] at hm
     rcases List.mem_append.1 hm with hm|hm
     ·exact i1 m hm
     ·rw [List.mem_singleton.1 hm]
      exact ⟨by omega,y,hy,hk⟩
    ·by_cases e:i+1<j
     ·exact i2 i u w e hu hw
     ·have e:j=i+1:=by omega
      subst e
      rw [hx] at hw
      cases hw
      exact hprev u (by omega) hu
   refine ⟨fun hlit=>⟨y.lit,ld q3 rfl,?_⟩,fun hlit=>⟨y.cls,ld q3 rfl,fun h=>bad (by unfold iY;rw [hlit];simpa using h),fun h=>good (by unfold iY;rw [hlit];simpa using h)⟩⟩
   dsimp only
   rw [gU]
   exact ⟨fun h=>bad (by unfold iY;rw [hlit];simpa using h),fun h=>good (by unfold iY;rw [hlit];simpa using h)⟩
  refine ⟨fun hj0=> ?_,fun hj0=>body fun y h=>by omega⟩
  have hj0:0<j:=by omega
  have ew:IntKind.i64.wrap ((j:Int) - 1)=((j - 1:Nat):Int):=by rw [aK (by omega) (by omega)];omega
  rw [ew]
  have hy:=List.getElem?_eq_getElem (show j - 1<l.length by omega)
  generalize l[j - 1]=y at hy
  obtain ⟨a',cc',ha',hr',hc'⟩:=(hl.le l2).get (by decide) hy
  rw [show cc'= #[vi y] from hc'] at hr'
  refine ⟨a,ha,by omega,by omega,x,hcell,a',ha',by omega,by omega,y,by rw [Int.toNat_natCast];exact aJ hr' rfl,fun h=>no l2 fun hp=> ?_,fun h=>body fun z _ hz=> ?_⟩
  ·have:=hp.2.2 (j - 1) y x hy (by rw [show j - 1+1=j by omega];exact hx)
   omega
  ·rw [hy] at hz
   cases hz
   omega
 ·have e:j=l.length:=by omega
  subst e
  rw [List.take_length] at i1
  unfold yT
  refine ⟨?_,aa l1 l2⟩
  congr 1
  rw [Bool.eq_iff_iff,decide_eq_true_eq,decide_eq_true_eq]
  constructor
  ·intro h
   refine ⟨fun e=>by rw [e] at el;simp at el;omega,i1,fun i x y hx hy=>i2 i x y ?_ hx hy⟩
   exact (List.getElem?_eq_some_iff.1 hy).1
  ·intro h
   have:l.length≠0:=fun e=>h.1 (List.eq_nil_of_length_eq_zero e)
   omega
open Classical in
theorem vp {F:PH} {v w:Array Value} {g:Gr} {x:Fi} (hg:GV F v g) (hx:Mem.rep F x w) (hf:x.cond.1.length≤1000000) (hll:x.toks.length≤1000000000):ac prog 117 #[.agg v,.agg w] F fun r F'=>r=.bool (decide (bL g x))∧F.le F':=by
 have hg0:=hg
 have hx0:=hx
 obtain ⟨c,n,t,s,p,lv,f,rfl,hs⟩:=hg
 obtain ⟨tt,nn,rfl,ht,hd⟩:=hx
 have ec:=hs.c.len (by decide)
 have et:=hs.t.len (by decide)
 have es:=hs.s.len (by decide)
 have ep:=hs.p.len (by decide)
 refine Oe ?_
 unfold HS
 refine (St.start F).newG fun b2 G1 F1 l1 q2 _ h=> ?_
 refine h.newG fun b3 G2 F2 l2 q3 _ h=> ?_
 replace q2:=l2 _ _ q2
 replace l1:=aa l1 l2
 have R:∀{F':PH} {b:Bool},G2.le F'→(b=true↔bL g x)→(Value.bool b=.bool (decide (bL g x))∧F.le F'):=fun {F' b} l h=>⟨by congr 1;rw [Bool.eq_iff_iff,h,decide_eq_true_eq],aa l1 l⟩
 have no:∀{F':PH},G2.le F'→¬bL g x→(Value.bool false=.bool (decide (bL g x))∧F.le F'):=fun l h=>R l ⟨fun h=>(by cases h),fun hp=>absurd hp h⟩
 have kr:bL g x→1≤x.k∧x.k≤5:=fun h=>by rcases h.2 with h|h|h<;>have:=h.1<;>omega
 have pl:bL g x→fk x:=fun h=>by
  rcases h.2 with ⟨k,_,a,b,c⟩|⟨k,_,a,b,c,d⟩|⟨k,_,a,b,c,d⟩
  ·exact ⟨.inl k,fun _=>c,.inr a,.inr b⟩
  ·exact ⟨.inr ⟨a,b,c⟩,fun h=>by omega,.inl k,.inr d⟩
  ·exact ⟨.inr ⟨a,b,c⟩,fun h=>by omega,.inr d,.inl k⟩
 refine ⟨_,ld (h.le _ _ q3) rfl,fun hk=>no h.le fun hp=>by have:=kr hp;omega,fun hk1=>⟨_,ld (h.le _ _ q3) rfl,fun hk=>no h.le fun hp=>by have:=kr hp;omega,fun hk5=>⟨#[nn.v,vi x.cond.2],rfl,ft (h.le _ _ q3) rfl,_,ld (h.le _ _ q2) rfl,?_⟩⟩⟩
 dsimp only
 rw [ec]
 refine h.runv (AX (d:=x.cond) (DV.mk (hd.le l1)) (by show _≤_;omega) hf) fun G3 F3 l3 h=> ?_
 replace no:∀{F':PH},G3.le F'→¬bL g x→(Value.bool false=.bool (decide (bL g x))∧F.le F'):=fun l h=>no (aa l3 l) h
 replace q3:=l3 _ _ q3
 replace q2:=l3 _ _ q2
 have l13:=aa l1 l3
 refine ⟨_,rfl,fun hc=>no h.le fun hp=>(by rw [bZ.2 hp.1] at hc;cases hc),fun hc=>⟨_,rfl,ak (h.le _ _ q3),?_⟩⟩
 have hfit:gK x.cond g.conds.length:=bZ.1 (by simpa using hc)
 refine h.runv (zj (Mem.le l13 hx0)) fun G4 F4 l4 h=> ?_
 replace no:∀{F':PH},G4.le F'→¬bL g x→(Value.bool false=.bool (decide (bL g x))∧F.le F'):=fun l h=>no (aa l4 l) h
 replace R:∀{F':PH} {b:Bool},G4.le F'→(b=true↔bL g x)→(Value.bool b=.bool (decide (bL g x))∧F.le F'):=fun l h=>R (aa l3 (aa l4 l)) h
 replace q3:=l4 _ _ q3
 replace q2:=l4 _ _ q2
 replace l13:=aa l13 l4
 refine ⟨_,rfl,fun hc=>no h.le fun hp=>(by rw [decide_eq_true (pl hp)] at hc;cases hc),fun hc=> ?_⟩
 have hpl:fk x:=by simpa using hc
 obtain ⟨P1,P2,P3,P4⟩:=hpl
 have j2:¬(x.k=1∨x.k=2)→∀q:Bool,(q=true↔(x.k=3∨x.k=4))→nE b2 b3 q (fun r F'=>r=.bool (decide (bL g x))∧F.le F') F4:=fun hk12 q hq=>by
  have hz:=P1.resolve_left hk12
  unfold nE
  refine ⟨fun h1=> ?_,fun h1=> ?_⟩
  ·have hk:=hq.1 h1
   have h5:x.tok=0:=P4.resolve_left (by omega)
   have key:bL g x↔(0≤x.left∧x.left<g.nons.length∧eK g (fun t=>decide (t.cls=0)) x.toks):=by
    constructor
    ·intro hp
     rcases hp.2 with h|h|h
     ·exact absurd h.1 hk12
     ·exact h.2.1
     ·have:=h.1;omega
    ·intro h
     exact ⟨hfit,.inr (.inl ⟨hk,h,hz.1,hz.2.1,hz.2.2,h5⟩)⟩
   refine ⟨_,ld (h.le _ _ q3) rfl,fun h0=>⟨_,ld (h.le _ _ q3) rfl,_,ld (h.le _ _ q2) rfl,fun h2=>⟨_,rfl,ak (h.le _ _ q2),_,ld (h.le _ _ q3) rfl,?_⟩,fun h2=>no h.le fun hp=> ?_⟩,fun h0=>no h.le fun hp=>h0 (key.1 hp).1⟩
   ·refine h.runv (qz (GV.le hg0 l13) (ht.le l13) hll false) fun G5 F5 l5 h=>⟨_,rfl,R (aa l5 h.le) ?_⟩
    rw [decide_eq_true_eq,key]
    exact ⟨fun h=>⟨h0,by omega,h⟩,fun h=>h.2.2⟩
   ·have:=(key.1 hp).2.1;omega
  ·have hk:¬(x.k=3∨x.k=4):=fun h=>by rw [hq.2 h] at h1;cases h1
   have hk5:x.k=5:=by omega
   have h5:x.left=0:=P3.resolve_left hk
   have key:bL g x↔(eK g (fun t=> !decide (t.lit=emp)) x.toks∧0≤x.tok∧∃t,g.toks[x.tok.toNat]? =some t∧t.cls=0∧t.lit=emp):=by
    constructor
    ·intro hp
     rcases hp.2 with h|h|h
     ·exact absurd h.1 hk12
     ·exact absurd h.1 hk
     ·exact h.2.1
    ·intro h
     exact ⟨hfit,.inr (.inr ⟨hk5,h,hz.1,hz.2.1,hz.2.2,h5⟩)⟩
   have noT:∀{F':PH},G4.le F'→¬(0≤x.tok∧x.tok<g.toks.length)→(Value.bool false=.bool (decide (bL g x))∧F.le F'):=fun l h=>no l fun hp=>by
    obtain ⟨_,h0,y,hy,_⟩:=key.1 hp
    have:=(List.getElem?_eq_some_iff.1 hy).1
    exact h ⟨h0,by omega⟩
   refine ⟨_,ld (h.le _ _ q3) rfl,fun h0=>noT h.le (by omega),fun h0=>⟨_,ld (h.le _ _ q3) rfl,_,ld (h.le _ _ q2) rfl,fun h2=>noT h.le (by omega),fun h2=>⟨_,rfl,ak (h.le _ _ q2),_,ld (h.le _ _ q3) rfl,?_⟩⟩⟩
   refine h.runv (qz (GV.le hg0 l13) (ht.le l13) hll true) fun G5 F5 l5 h=>⟨_,rfl,fun hc=>no (aa l5 h.le) fun hp=> ?_,fun hc=> ?_⟩
   ·rw [decide_eq_true (show eK g (iY true) x.toks from (key.1 hp).1)] at hc;cases hc
   have hasc:eK g (iY true) x.toks:=by simpa using hc
   have l15:=aa l13 l5
   refine ⟨_,ld (h.le _ _ (l5 _ _ q2)) rfl,_,ld (h.le _ _ (l5 _ _ q3)) rfl,h.ix (hs.t.le l15) (by decide) (by omega) (by omega) fun a cc y hy hr hcc=>⟨cc,Mem.len hcc,hr,?_⟩⟩
   have hstc:=Mem.st hcc
   have hlc:cc.size=7:=Mem.len hcc
   obtain ⟨pp,nn',rfl,_,_⟩:=hcc
   refine h.var hstc (fun b6 G6 F6 l6 q6 h=> ?_) rfl rfl
   refine ⟨_,ld (h.le _ _ q6) rfl,fun hcl=>⟨_,ld (h.le _ _ q6) rfl,R (aa l5 (aa l6 h.le)) ?_⟩,fun hcl=>no (aa l5 (aa l6 h.le)) fun hp=> ?_⟩
   ·rw [gU,decide_eq_true_eq,key]
    constructor
    ·intro hl
     exact ⟨hasc,by omega,y,hy,hcl,hl⟩
    ·rintro ⟨_,_,y',hy',_,hl⟩
     rw [hy] at hy'
     cases hy'
     exact hl
   ·obtain ⟨_,_,y',hy',hcl',_⟩:=key.1 hp
    rw [hy] at hy'
    cases hy'
    exact hcl hcl'
 have j1:∀q:Bool,(q=true↔(x.k=1∨x.k=2))→nF b2 b3 x.k q (fun r F'=>r=.bool (decide (bL g x))∧F.le F') F4:=fun q hq=>by
  unfold nF
  refine ⟨fun h1=> ?_,fun h1=> ?_⟩
  ·have hk:=hq.1 h1
   have key:bL g x↔me g x:=by
    constructor
    ·intro hp
     rcases hp.2 with h|h|h
     ·exact h.2.1
     ·have:=h.1;omega
     ·have:=h.1;omega
    ·intro h
     exact ⟨hfit,.inl ⟨hk,h,P3.resolve_left (by omega),P4.resolve_left (by omega),P2 hk⟩⟩
   have noR:¬(0≤x.par∧x.par<g.prods.length∧0≤x.ch∧x.ch<g.prods.length)→(Value.bool false=.bool (decide (bL g x))∧F.le F4):=fun hn=>no h.le fun hp=>by
    obtain ⟨h0,h1,_,p',q',hp',hq',_⟩:=key.1 hp
    have:=(List.getElem?_eq_some_iff.1 hp').1
    have:=(List.getElem?_eq_some_iff.1 hq').1
    exact hn (by omega)
   have p2:=h.le _ _ q2
   have p3:=h.le _ _ q3
   refine ⟨_,ld p3 rfl,fun h0=>noR (by omega),fun h0=>⟨_,ld p3 rfl,_,ld p2 rfl,fun h0=>noR (by omega),fun h2=>⟨_,ld p3 rfl,fun h0=>noR (by omega),fun h3=>⟨_,ld p3 rfl,_,ld p2 rfl,fun h0=>noR (by omega),fun h4=>⟨_,ld p2 rfl,_,ld p3 rfl,?_⟩⟩⟩⟩⟩
   refine h.ix (hs.p.le l13) (by decide) (by omega) (by omega) fun a cc y hy hr hcc=> ?_
   obtain ⟨rr,n2,l2',rfl,hrr,_,_⟩:=hcc
   have er:=hrr.len (by decide)
   have noA:¬(0≤x.pos∧x.pos<y.right.length)→(Value.bool false=.bool (decide (bL g x))∧F.le F4):=fun hn=>no h.le fun hp=>by
    obtain ⟨_,_,h0,p',q',hp',_,hs'⟩:=key.1 hp
    rw [hy] at hp'
    cases hp'
    have:=(List.getElem?_eq_some_iff.1 hs').1
    exact hn (by omega)
   refine ⟨rr,aF hr rfl,_,ld p3 rfl,fun h5=>⟨_,ld p3 rfl,fun h6=>⟨_,ld p3 rfl,?_⟩,fun h6=>noA (by omega)⟩,fun h5=>noA (by omega)⟩
   have hlt:x.pos.toNat<y.right.length:=by omega
   have hz:=List.getElem?_eq_getElem hlt
   generalize y.right[x.pos.toNat]=z at hz
   obtain ⟨a2,c2,ha2,hr2,hc2⟩:=(hrr.le h.le).get (by decide) hz
   rw [show c2=z.arr from hc2] at hr2
   refine ⟨a2,ha2,by omega,by omega,z.t,aJ hr2 rfl,fun hzt=>⟨_,ld p3 rfl,a2,ha2,by omega,by omega,z.i,aF hr2 rfl,_,ld p2 rfl,_,ld p3 rfl,?_⟩,fun hzt=>no h.le fun hp=> ?_⟩
   ·refine h.ix (hs.p.le l13) (by decide) (by omega) (by omega) fun a cc u hu hr hcc=> ?_
    obtain ⟨r3,n3,l3',rfl,_,_,_⟩:=hcc
    refine ⟨u.left,aF hr rfl,R h.le ?_⟩
    rw [decide_eq_true_eq,key]
    have hzt:z.t=false:=by simpa using hzt
    constructor
    ·intro he
     refine ⟨by omega,by omega,by omega,y,u,hy,hu,?_⟩
     rw [hz,← he,← hzt]
    ·rintro ⟨_,_,_,p',q',hp',hq',hs'⟩
     rw [hy] at hp'
     cases hp'
     rw [hu] at hq'
     cases hq'
     rw [hz] at hs'
     cases hs'
     rfl
   ·obtain ⟨_,_,_,p',q',hp',hq',hs'⟩:=key.1 hp
    rw [hy] at hp'
    cases hp'
    rw [hz] at hs'
    cases hs'
    cases hzt
  ·have hk12:¬(x.k=1∨x.k=2):=fun h=>by rw [hq.2 h] at h1;cases h1
   refine ⟨fun h3=>j2 hk12 _ ?_,fun h3=>j2 hk12 _ ?_⟩
   ·rw [decide_eq_true_eq];exact ⟨fun h=> .inl h,fun _=>h3⟩
   ·rw [decide_eq_true_eq];exact ⟨fun h=> .inr h,fun h=>h.resolve_left h3⟩
 refine ⟨_,ld (h.le _ _ q3) rfl,fun h1=>j1 _ ?_,fun h1=>j1 _ ?_⟩
 ·rw [decide_eq_true_eq];exact ⟨fun h=> .inl h,fun _=>h1⟩
 ·rw [decide_eq_true_eq];exact ⟨fun h=> .inr h,fun h=>h.resolve_left h1⟩
theorem lW {F:PH} {v:Array Value} {g:Gr} (hg:GV F v g) (i:Int) (h1:g.lvs.length≤1000000) (h2:∀x∈g.lvs,x.ps.length≤1000000):ac prog 116 #[.agg v,vi i] F fun r F'=>r=.bool (decide (i∈g.lvs.flatMap Lv.ps))∧F.le F':=by
 obtain ⟨c,n,t,s,p,lv,f,rfl,hs⟩:=hg
 have el:=hs.l.len (by decide)
 refine Od ?_
 unfold HR
 refine fresh fun b2 F1 l1 q1 _=> ?_
 replace hs:=hs.le l1
 refine bW (tF · i b2 _) g.lvs.length (fun k F'=>F1.le F'∧i ∉ (g.lvs.take k).flatMap Lv.ps) ⟨le_refl' _,by simp⟩ ?_
 rintro k F2 N hk ⟨l2,hni⟩ next
 unfold tF
 have p1:=l2 _ _ q1
 refine ⟨_,ld p1 rfl,fun hlt=> ?_,fun hge=> ?_⟩
 ·have hlt:k<g.lvs.length:=by omega
  have hx:=List.getElem?_eq_getElem hlt
  have hxm:=List.getElem_mem hlt
  generalize g.lvs[k]=x at hx hxm
  obtain ⟨a,cc,ha,hr,hc⟩:=(hs.l.le l2).get (by decide) hx
  obtain ⟨pp,nn,rfl,hps,_⟩:=hc
  have eps:=hps.len (by decide)
  have hpl:=h2 x hxm
  have hcell:∀{F':PH},F2.le F'→F'.cell (Addr.add a (Int.toNat (k:Int)*4))=some pp.v:=fun l=>by rw [Int.toNat_natCast];exact aq l (aJ hr rfl)
  refine bW (tE N · i b2 (k:Int) _) x.ps.length (fun j F'=>F2.le F'∧i ∉ x.ps.take j) ⟨le_refl' _,by simp⟩ ?_
  rintro j F3 N2 hj ⟨l3,hnj⟩ next2
  unfold tE
  have p3:=l3 _ _ p1
  refine ⟨_,ld p3 rfl,a,ha,by omega,by omega,pp,hcell l3,fun hlt2=>⟨_,ld p3 rfl,a,ha,by omega,by omega,pp,hcell l3,ixc (hps.le l3) (by decide) (by omega) (by omega) fun a2 c2 y hy hr2 hc2=> ?_⟩,fun hge2=> ?_⟩
  ·rw [Int.toNat_natCast] at hy
   rw [show c2= #[vi y] from hc2] at hr2
   refine ⟨y,aJ hr2 rfl,fun he=>⟨?_,aa l1 (aa l2 l3)⟩,fun he=> ?_⟩
   ·rw [decide_eq_true (List.mem_flatMap.2 ⟨x,hxm,by rw [← he];exact List.mem_of_getElem? hy⟩)]
   ·rw [aQ (n:=x.ps.length) (by omega) (by omega)]
    refine next2 _ (by omega) ⟨l3,fun hm=> ?_⟩
    rw [be hy] at hm
    rcases List.mem_append.1 hm with h|h
    ·exact hnj h
    ·exact he (List.mem_singleton.1 h).symm
  ·have e:j=x.ps.length:=by omega
   subst e
   rw [List.take_length] at hnj
   unfold yR
   rw [aQ hlt (by omega)]
   refine next _ hlt ⟨aa l2 l3,fun hm=> ?_⟩
   rw [be hx,List.flatMap_append] at hm
   rcases List.mem_append.1 hm with h|h
   ·exact hni h
   ·simp at h
    exact hnj h
 ·have e:k=g.lvs.length:=by omega
  subst e
  rw [List.take_length] at hni
  unfold yQ
  exact ⟨by rw [decide_eq_false hni],aa l1 l2⟩
structure Ru where
 kind:Nat
 a:Nat
 b:Nat
 c:Nat
 cond:Nat
instance:Mem Ru where
 n:=5
 rep _ x c:=c= #[vB x.kind,vB x.a,vB x.b,vB x.c,vB x.cond]∧x.kind<256∧x.a<256∧x.b<256∧x.c<256∧x.cond<256
 len h:=by obtain ⟨rfl,_⟩:=h;rfl
 le _ h:=h
 st h:=by obtain ⟨rfl,_⟩:=h;simp [aj]
noncomputable abbrev ruD (g:Gr) (x:Ru):Dia:=dia (gR x.cond g.conds.length)
open Classical in
noncomputable def jk (g:Gr) (x:Fi):Gr:=if bL g x then {g with fils:=g.fils++[x]} else g
noncomputable def mv (g:Gr) (x:Ru):Gr:=
 if ((x.a % g.prods.length:Nat):Int)∈g.lvs.flatMap Lv.ps then g
 else {g with lvs:=g.lvs++[⟨((x.a % g.prods.length:Nat):Int)::(if x.b % g.prods.length≠x.a % g.prods.length∧((x.b % g.prods.length:Nat):Int) ∉ g.lvs.flatMap Lv.ps then [((x.b % g.prods.length:Nat):Int)] else []),((x.c % 4:Nat):Int),ruD g x⟩]}
noncomputable def tokG (g:Gr) (x:Ru):Gr:={g with toks:=g.toks.modify (x.a % 9) fun t=>{t with cond:=ruD g x}}
noncomputable def ruleG (g:Gr) (x:Ru):Gr:=
 if x.kind % 8<2 then mv g x
 else if x.kind % 8<4 then jk g ⟨((x.kind % 8 - 1:Nat):Int),((x.a % g.prods.length:Nat):Int),((x.c % 16:Nat):Int),((x.b % g.prods.length:Nat):Int),0,0,[],ruD g x⟩
 else if x.kind % 8<6 then jk g ⟨((x.kind % 8 - 1:Nat):Int),0,0,0,((x.a % g.nons.length:Nat):Int),0,[((x.b % 9:Nat):Int)],ruD g x⟩
 else if x.kind % 8=6 then jk g ⟨5,0,0,0,0,0,[5],ruD g x⟩
 else tokG g x
theorem cZ.sz {α:Type} [Mem α] {F:PH} {l:List α} {vs:List (Array Value)} (h:cZ F l vs):∀d∈vs,d.size=Mem.n α:=by
 induction h with
 |nil=>intro d hd;cases hd
 |cons h _ ih=>
  intro d hd
  rcases List.mem_cons.1 hd with rfl|hd
  ·exact Mem.len h
  ·exact ih d hd
structure RK (F G:PH) (b3 b5:Nat) (g:Gr) (x:Ru) (c n t s p l f m:Sl):Prop where
 lF:F.le G
 q3:G b3=some (.cells #[vB x.kind,vB x.a,vB x.b,vB x.c,vB x.cond] 113)
 q5:G b5=some (.cells #[m.v,vi (ruD g x).2] 33)
 gs:GS G g c n t s p l f
 m:RL G m (ruD g x).1
theorem RK.le {F G G':PH} {b3 b5:Nat} {g:Gr} {x:Ru} {c n t s p l f m:Sl} (h:RK F G b3 b5 g x c n t s p l f m) (hl:G.le G'):RK F G' b3 b5 g x c n t s p l f m:=
 ⟨aa h.lF hl,hl _ _ h.q3,hl _ _ h.q5,h.gs.le hl,h.m.le hl⟩
theorem RK.gv {F G:PH} {b3 b5:Nat} {g:Gr} {x:Ru} {c n t s p l f m:Sl} (h:RK F G b3 b5 g x c n t s p l f m):GV G (g.arr c n t s p l f) g:=⟨c,n,t,s,p,l,f,rfl,h.gs⟩
section
variable {F G F1:PH} {b2 b3 b4 b5 b7 b8:Nat} {g g':Gr} {x:Ru} {c n t s p l f m:Sl}
theorem gQ {w:Array Value} (hF:F.le G) (hg:GV G w g') (st:St G F1 [pt b4 (.cells zG 39),pt b2 (.cells w 39)]):
  ∃v:Array Value,v.size=9∧F1.row (Addr.mk b2 0 none) v∧aA F1 (Addr.mk b4 0 none) 9 v fun F2=>∃v:Array Value,v.size=9∧F2.row (Addr.mk b4 0 none) v∧LR F g' (.agg v) F2:=by
 refine ⟨_,hg.size,st.whole1,?_⟩
 refine st.put0 (w':=w) hg.size rfl hg.st fun F3 h=> ?_
 exact ⟨_,hg.size,h.whole0,⟨_,rfl,hg.le h.le⟩,aa hF h.le⟩
theorem rQ {y:Fi} {ty my:Sl} (K:RK F G b3 b5 g x c n t s p l f m) (hf:g.fils.length≤1000000) (h1:y.cond.1.length≤1000000) (h2:y.toks.length≤1000) (ht:RL G ty y.toks) (hm:RL G my y.cond.1)
  (st:St G F1 [pt b7 (.cells (y.arr ty my) 74),pt b4 (.cells zG 39),pt b2 (.cells (g.arr c n t s p l f) 39)]):
  pF b2 b4 b7 (LR F (jk g y)) F1:=by
 obtain ⟨_,_,T⟩:=Kq
 unfold pF
 refine ⟨_,rfl,st.whole2,_,rfl,st.whole0,?_⟩
 refine st.runv (vp K.gv ⟨ty,my,rfl,ht,hm⟩ h1 (by omega)) fun G2 F2 l2 st=> ?_
 replace K:=K.le l2
 refine ⟨_,rfl,fun hc=> ?_,fun hc=> ?_⟩
 ·have e:jk g y={g with fils:=g.fils++[y]}:=by unfold jk;rw [if_pos (show bL g y by simpa using hc)]
  rw [e]
  refine ⟨_,st.ld2 rfl,_,rfl,st.whole0,?_⟩
  refine St.grow T st K.gs.f (y:=y) ⟨ty,my,rfl,ht.le l2,hm.le l2⟩ hf rfl (fun G' F' st=>st.whole0) fun s' G' F' l' hs' st=> ?_
  replace K:=K.le l'
  refine st.set2 (w':=Gr.arr {g with fils:=g.fils++[y]} c n t s p l s') (by show 8<9;decide) rfl fun F6 st=> ?_
  unfold lR
  exact gQ K.lF ⟨c,n,t,s,p,l,s',rfl,K.gs.c,K.gs.n,K.gs.t,K.gs.s,K.gs.p,K.gs.l,hs'⟩ st.tail
 ·have e:jk g y=g:=by unfold jk;rw [if_neg (show ¬bL g y by simpa using hc)]
  rw [e]
  unfold lR
  exact gQ K.lF K.gv st.tail
theorem xr {y:Lv} {sy my:Sl} (K:RK F G b3 b5 g x c n t s p l f m) (hl:g.lvs.length≤1000000) (hy:RL G sy y.ps) (hm:RL G my y.cond.1)
  (st:St G F1 [pt b8 (.cells (y.arr sy my) 72),pt b4 (.cells zG 39),pt b2 (.cells (g.arr c n t s p l f) 39)]):
  tq b2 b4 b8 (LR F {g with lvs:=g.lvs++[y]}) F1:=by
 obtain ⟨_,_,T⟩:=Kp
 unfold tq
 refine ⟨_,st.ld2 rfl,_,rfl,st.whole0,?_⟩
 refine St.grow T st K.gs.l (y:=y) ⟨sy,my,rfl,hy,hm⟩ hl rfl (fun G' F' st=>st.whole0) fun s' G' F' l' hs' st=> ?_
 replace K:=K.le l'
 refine st.set2 (w':=Gr.arr {g with lvs:=g.lvs++[y]} c n t s p s' f) (by show 7<9;decide) rfl fun F6 st=> ?_
 unfold lS
 exact gQ K.lF ⟨c,n,t,s,p,s',f,rfl,K.gs.c,K.gs.n,K.gs.t,K.gs.s,K.gs.p,hs',K.gs.f⟩ st.tail
end
end Go.Proofs.YtenpmjhnhepfdaaGreatDoor
