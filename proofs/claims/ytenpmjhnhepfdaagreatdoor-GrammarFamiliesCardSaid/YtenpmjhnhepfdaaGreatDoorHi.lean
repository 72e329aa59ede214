/-
  Check of grammars: tokens; the whole of Check.
-/
import Derived.Test.YtenpmjhnhepfdaaGreatDoorHg
namespace Go.Proofs.YtenpmjhnhepfdaaGreatDoor
open Go Go.Proofs.Tryz
set_option maxRecDepth 10000
def eQ (g:Gr) (kd:Tk→Bool) (l:List Int):Prop:=l≠[]∧(∀n∈l,0≤n∧∃t,g.toks[n.toNat]? =some t∧kd t=true)∧∀(i:Nat) (x y:Int),l[i]? =some x→l[i+1]? =some y→x<y
open Classical in
theorem gR {F:PH} {v:Array Value} {g:Gr} (hg:GV F v g) {sl:Sl} {l:List Int} (hl:RL F sl l) (hll:l.length≤1000000000) {k:Nat} {fst cap:Array Value} (hk:aC prog k=true) (kd:Tk→Bool)
  (hkd:∀t c F1,F.le F1→Mem.rep F1 t c→ae prog k (fst++([Value.agg c]).toArray++cap) F1 fun r F'=>r=.bool (kd t)∧F1.le F'):
  ae prog 159 #[.agg v,sl.v,.func (.func k) fst cap] F fun r F'=>r=.bool (decide (eQ g kd l))∧F.le F':=by
 obtain ⟨c,n,t,s,p,lv,f,rfl,hs⟩:=hg
 have et:=hs.t.len (by decide)
 have el:=hl.len (by decide)
 refine MD ?_
 unfold GA
 refine fresh fun b1 F1 l1 q1 _=> ?_
 replace hs:=hs.le l1
 replace hl:=hl.le l1
 have no:∀{F':PH},F1.le F'→¬eQ g kd l→(Value.bool false=.bool (decide (eQ g kd l))∧F.le F'):=fun {F'} l h=>⟨by rw [decide_eq_false h],aa l1 l⟩
 refine cZ (sG · sl (.func (.func k) fst cap) b1 _) l.length (fun j F'=>F1.le F'∧(∀n∈l.take j,0≤n∧∃t,g.toks[n.toNat]? =some t∧kd t=true)∧∀(i:Nat) (x y:Int),i+1<j→l[i]? =some x→l[i+1]? =some y→x<y)
  ⟨le_refl' _,by simp,fun i x y h=>by omega⟩ ?_
 rintro j F2 N hj ⟨l2,i1,i2⟩ next
 unfold sG
 refine ⟨fun hlt=> ?_,fun hge=> ?_⟩
 ·have hlt:j<l.length:=by omega
  refine ixc (hl.le l2) (by decide) (by omega) (by omega) fun a cc x hx hr hc=> ?_
  rw [Int.toNat_natCast] at hx hr
  rw [show cc= #[vi x] from hc] at hr
  have hxm:x∈l:=List.mem_of_getElem? hx
  have p1:=l2 _ _ q1
  have noR:¬(0≤x∧x<g.toks.length)→(Value.bool false=.bool (decide (eQ g kd l))∧F.le F2):=fun h=>no l2 fun hp=>by
   obtain ⟨h0,t',ht,_⟩:=hp.2.1 x hxm
   have:=(List.getElem?_eq_some_iff.1 ht).1
   exact h ⟨h0,by omega⟩
  refine ⟨_,aM hr rfl,fun h=>noR (by omega),fun x0=>⟨_,ld p1 rfl,fun h=>noR (by omega),fun x1=> ?_⟩⟩
  have body:(∀y,0<j→l[j - 1]? =some y→y<x)→∃v_41:Sl,F2.cell (Addr.mk b1 3 none)=some (Sl.v v_41)∧
   ∃a43_:Addr,v_41.base=some a43_∧0≤x∧x<(v_41.len:Int)∧
   ∃v_44:Array Value,v_44.size=7∧F2.row (Addr.add a43_ (Int.toNat x*7)) v_44∧
   ∃(k45:Nat) (fst45 cap45:Array Value),Value.func (.func k) fst cap=.func (.func k45) fst45 cap45∧aC prog k45=true∧ae prog k45 (fst45++([(.agg v_44)]).toArray++cap45) F2 fun v F'=>∃v_45:Bool,v=(.bool v_45)∧
   (((!v_45)=true→(Value.bool false=.bool (decide (eQ g kd l))∧F.le F'))∧
   ((!v_45)=false→mP N sl (.func (.func k) fst cap) b1 (j:Int) (fun r F'=>r=.bool (decide (eQ g kd l))∧F.le F') F')):=fun hprev=>by
   refine ⟨_,ld p1 rfl,ixc (hs.t.le l2) (by decide) (by omega) (by omega) fun a cc y hy hr hc=>⟨cc,Mem.len hc,hr,k,fst,cap,rfl,hk,?_⟩⟩
   refine (hkd y cc F2 (aa l1 l2) hc).mono ?_
   rintro _ F3 ⟨rfl,l3⟩
   refine ⟨_,rfl,fun h=>no (aa l2 l3) fun hp=> ?_,fun h=> ?_⟩
   ·obtain ⟨h0,t',ht,hk'⟩:=hp.2.1 x hxm
    rw [hy] at ht
    cases ht
    rw [hk'] at h
    cases h
   ·unfold mP
    rw [aV hlt (by omega)]
    refine next _ hlt ⟨aa l2 l3,fun m hm=> ?_,fun i u w hi hu hw=> ?_⟩
    ·rw [bh hx] at hm
     rcases List.mem_append.1 hm with hm|hm
     ·exact i1 m hm
     ·rw [List.mem_singleton.1 hm]
      exact ⟨by omega,y,hy,by simpa using h⟩
    ·by_cases e:i+1<j
     ·exact i2 i u w e hu hw
     ·have e:j=i+1:=by omega
      subst e
      rw [hx] at hw
      cases hw
      exact hprev u (by omega) hu
  refine ⟨fun hj0=> ?_,fun hj0=>body fun y h=>by omega⟩
  have hj0:0<j:=by omega
  have ew:IntKind.i64.wrap ((j:Int) - 1)=((j - 1:Nat):Int):=by rw [aJ (by omega) (by omega)];omega
  rw [ew]
  refine ixc (hl.le l2) (by decide) (by omega) (by omega) fun a cc y hy hr hc=> ?_
  rw [Int.toNat_natCast] at hy hr
  rw [show cc= #[vi y] from hc] at hr
  refine ⟨_,aM (by rw [Int.toNat_natCast];exact hr) rfl,fun h=>no l2 fun hp=> ?_,fun h=>body fun z _ hz=> ?_⟩
  ·have:=hp.2.2 (j - 1) y x hy (by rw [show j - 1+1=j by omega];exact hx)
   omega
  ·rw [hy] at hz
   cases hz
   omega
 ·have e:j=l.length:=by omega
  subst e
  rw [List.take_length] at i1
  unfold yf
  refine ⟨?_,aa l1 l2⟩
  congr 1
  rw [Bool.eq_iff_iff,decide_eq_true_eq,decide_eq_true_eq]
  constructor
  ·intro h
   refine ⟨fun e=>by rw [e] at el;simp at el;omega,i1,fun i x y hx hy=>i2 i x y ?_ hx hy⟩
   exact (List.getElem?_eq_some_iff.1 hy).1
  ·intro h
   have:l.length≠0:=fun e=>h.1 (List.eq_nil_of_length_eq_zero e)
   omega
def lw (g:Gr) (x:Fi):Prop:=0≤x.par∧0≤x.ch∧0≤x.pos∧∃p q,g.prods[x.par.toNat]? =some p∧g.prods[x.ch.toNat]? =some q∧p.right[x.pos.toNat]? =some ⟨false,q.left⟩
open Classical in
theorem za {F:PH} {v w:Array Value} {g:Gr} {x:Fi} (hg:GV F v g) (hx:Mem.rep F x w):ae prog 158 #[.agg v,.agg w] F fun r F'=>r=.bool (decide (lw g x))∧F.le F':=by
 obtain ⟨c,n,t,s,p,lv,f,rfl,hs⟩:=hg
 obtain ⟨tt,nn,rfl,_,_⟩:=hx
 have ep:=hs.p.len (by decide)
 refine MC ?_
 unfold Gz
 refine fresh fun b2 F1 l1 q1 _=> ?_
 refine fresh fun b3 F2 l2 q2 _=> ?_
 replace q1:=l2 _ _ q1
 replace l1:=aa l1 l2
 have hp:=hs.p.le l1
 have no:¬lw g x→(Value.bool false=.bool (decide (lw g x))∧F.le F2):=fun h=>⟨by rw [decide_eq_false h],l1⟩
 have noR:¬(x.par<g.prods.length∧x.ch<g.prods.length)→¬lw g x:=fun h hq=>by
  obtain ⟨_,_,_,p',q',hp',hq',_⟩:=hq
  have:=(List.getElem?_eq_some_iff.1 hp').1
  have:=(List.getElem?_eq_some_iff.1 hq').1
  exact h (by omega)
 refine ⟨_,ld q2 rfl,fun h=>no fun hq=>by have:=hq.1;omega,fun k1=>⟨_,ld q2 rfl,_,ld q1 rfl,fun h=>no (noR (by omega)),fun k2=>⟨_,ld q2 rfl,fun h=>no fun hq=>by have:=hq.2.1;omega,fun k3=>⟨_,ld q2 rfl,_,ld q1 rfl,fun h=>no (noR (by omega)),fun k4=>⟨_,ld q1 rfl,_,ld q2 rfl,?_⟩⟩⟩⟩⟩
 refine ixc hp (by decide) (by omega) (by omega) fun a cc y hy hr hc=> ?_
 obtain ⟨rr,n2,l2',rfl,h1,_,_⟩:=hc
 have er:=h1.len (by decide)
 have noA:¬x.pos<y.right.length→¬lw g x:=fun h hq=>by
  obtain ⟨_,_,_,p',q',hp',hq',hs'⟩:=hq
  rw [hy] at hp'
  cases hp'
  have:=(List.getElem?_eq_some_iff.1 hs').1
  omega
 refine ⟨_,aF hr rfl,_,ld q2 rfl,fun k5=>⟨_,ld q2 rfl,fun k6=>⟨_,ld q2 rfl,?_⟩,fun k6=>no (noA (by omega))⟩,fun k5=>no fun hq=>k5 hq.2.2.1⟩
 refine ixc h1 (by decide) (by omega) (by omega) fun a cc z hz hr hc=> ?_
 rw [show cc=z.arr from hc] at hr
 refine ⟨_,rfl,hr,_,ld q1 rfl,_,ld q2 rfl,ixc hp (by decide) (by omega) (by omega) fun a cc u hu hr hc=> ?_⟩
 obtain ⟨r3,n3,l3',rfl,_,_,_⟩:=hc
 refine ⟨_,aF hr rfl,_,fun F=>Jm z ⟨false,u.left⟩ F,?_,l1⟩
 congr 1
 rw [Bool.eq_iff_iff,decide_eq_true_eq,decide_eq_true_eq]
 constructor
 ·rintro rfl
  exact ⟨by omega,by omega,by omega,y,u,hy,hu,hz⟩
 ·rintro ⟨_,_,_,p',q',hp',hq',hs'⟩
  rw [hy] at hp'
  cases hp'
  rw [hu] at hq'
  cases hq'
  rw [hz] at hs'
  exact Option.some.inj hs'
def bK (g:Gr) (x:Fi):Prop:=gD x.cond g.conds.length∧
  (((x.k=1∨x.k=2)∧lw g x∧x.left=0∧x.tok=0∧x.toks=[])∨
   ((x.k=3∨x.k=4)∧(0≤x.left∧x.left<g.nons.length∧eQ g (fun t=>decide (t.cls=0)) x.toks)∧x.par=0∧x.pos=0∧x.ch=0∧x.tok=0)∨
   (x.k=5∧(eQ g (fun t=> !decide (t.lit=emp)) x.toks∧0≤x.tok∧∃t,g.toks[x.tok.toNat]? =some t∧t.cls=0∧t.lit=emp)∧x.par=0∧x.pos=0∧x.ch=0∧x.left=0))
theorem Jk:aC prog 156=true:=by kernel_rfl
theorem Jl:aC prog 157=true:=by kernel_rfl
theorem iX {F:PH} {t:Tk} {c:Array Value} (h:Mem.rep F t c):ae prog 156 #[.agg c] F fun r F'=>r=.bool (decide (t.cls=0))∧F.le F':=by
 obtain ⟨p,n,rfl,_,_⟩:=h
 refine MA ?_
 unfold Gx
 exact fresh fun b F1 l1 q1 _=>⟨_,ld q1 rfl,rfl,l1⟩
theorem iY {F:PH} {t:Tk} {c:Array Value} (h:Mem.rep F t c):ae prog 157 #[.agg c] F fun r F'=>r=.bool (!decide (t.lit=emp))∧F.le F':=by
 obtain ⟨p,n,rfl,_,_⟩:=h
 refine MB ?_
 unfold Gy
 exact fresh fun b F1 l1 q1 _=>⟨_,ld q1 rfl,by rw [nT],l1⟩
abbrev nO (a0 a1 a2 a3 a4 a5:Int) (s6 s7:Sl) (a8:Int):Array Value:= #[vi a0,vi a1,vi a2,vi a3,vi a4,vi a5,s6.v,s7.v,vi a8]
open Classical in
theorem jG {F:PH} {v:Array Value} {g:Gr} (hg:GV F v g) (hl:co g=false) (hz:Sz g):ae prog 80 #[.agg v] F fun r F'=>r=vi (if ∀x∈g.fils,bK g x then 0 else 53)∧F.le F':=by
 obtain ⟨_,_,hlf,_,_,_,_⟩:=fJ hl
 have hg0:=hg
 obtain ⟨c,n,t,s,p,lv,f,rfl,hs⟩:=hg
 have ec:=hs.c.len (by decide)
 have et:=hs.t.len (by decide)
 have es:=hs.s.len (by decide)
 have ef:=hs.f.len (by decide)
 refine OK ?_
 unfold L9
 refine fresh fun b1 F1 l1 q1 _=> ?_
 replace hs:=hs.le l1
 replace hg0:=hg0.le l1
 refine ⟨_,ld q1 rfl,?_⟩
 refine cZ (wj · b1 f _) g.fils.length (fun k F'=>∃G,F1.le G∧St G F' []∧∀x∈g.fils.take k,bK g x) ⟨F1,le_refl' _,.start _,by simp⟩ ?_
 rintro k F3 N hk ⟨G3,l3,h,hi⟩ next
 unfold wj
 refine ⟨fun hlt=> ?_,fun hge=> ?_⟩
 ·have hlt:k<g.fils.length:=by omega
  refine h.ix (hs.f.le l3) (by decide) (by omega) (by omega) fun a cc x hx hr hc=> ?_
  rw [Int.toNat_natCast] at hx
  have hxm:x∈g.fils:=List.mem_of_getElem? hx
  have hxl:=hz.f x hxm
  have hst:=Mem.st hc
  have hc0:=hc
  obtain ⟨tt,nn,rfl,h1,h2⟩:=hc
  have ett:=h1.len (by decide)
  refine ⟨x.arr tt nn,rfl,hr,?_⟩
  refine h.var hst fun b6 G4 F4 l4 q6 h=> ?_
  have bad:∀{F'},G3.le F'→¬bK g x→(vi 53=vi (if ∀x∈g.fils,bK g x then 0 else 53)∧F.le F'):=fun {F'} l hn=>⟨by rw [if_neg (fun h=>hn (h x hxm))],aa l1 (aa l3 l)⟩
  refine ⟨#[nn.v,vi x.cond.2],rfl,nX (h.le _ _ q6) rfl,_,ld (h.le _ _ (l4 _ _ (l3 _ _ q1))) rfl,?_⟩
  dsimp only
  rw [ec]
  refine h.runv (fL (d:=x.cond) (DV.mk (h2.le l4))) fun G5 F5 l5 h=>⟨_,rfl,_,rfl,aj (h.le _ _ (l5 _ _ q6)),?_⟩
  have l35:=aa l4 l5
  replace q6:=l5 _ _ q6
  refine h.new fun b8 F6 h=> ?_
  refine h.put0 (w':=x.arr tt nn) rfl rfl hst fun F7 h=> ?_
  refine h.set0 (w':=nO 0 x.par x.pos x.ch x.left x.tok tt nn x.cond.2) (by simp) rfl fun F8 h=> ?_
  refine h.putR0 (w':=nO 0 x.par x.pos x.ch x.left x.tok tt Sl.nil 0) rfl (by simp [ak]) (by simp) rfl fun F9 h=> ?_
  have j2:∀(fine:Bool) (a1 a2 a3 a4 a5:Int) (s6:Sl) G9 F9,G3.le G9→St G9 F9 [pt b8 (.cells (nO 0 a1 a2 a3 a4 a5 s6 Sl.nil 0) 74)]→
    ((fine=true∧a1=0∧a2=0∧a3=0∧a4=0∧a5=0∧s6.len=0)↔bK g x)→
    ed N b1 b8 f (k:Int) fine (fun r F'=>r=vi (if ∀x∈g.fils,bK g x then 0 else 53)∧F.le F') F9:=fun fine a1 a2 a3 a4 a5 s6 G9 F9 l9 h hiff=>by
   unfold ed
   have l:=aa l9 h.le
   refine ⟨fun hb=>bad l fun hn=>(by rw [(hiff.2 hn).1] at hb;cases hb),fun hb=>⟨_,h.ld0 rfl,fun e=>bad l fun hn=>e (hiff.2 hn).2.1,fun e1=>⟨_,h.ld0 rfl,fun e=>bad l fun hn=>e (hiff.2 hn).2.2.1,fun e2=>⟨_,h.ld0 rfl,fun e=>bad l fun hn=>e (hiff.2 hn).2.2.2.1,fun e3=>
    ⟨_,h.ld0 rfl,fun e=>bad l fun hn=>e (hiff.2 hn).2.2.2.2.1,fun e4=>⟨_,h.ld0 rfl,fun e=>bad l fun hn=>e (hiff.2 hn).2.2.2.2.2.1,fun e5=>⟨_,h.ld0 rfl,fun e=>bad l fun hn=>by have:=(hiff.2 hn).2.2.2.2.2.2;omega,fun e6=> ?_⟩⟩⟩⟩⟩⟩⟩
   rw [aV hlt (by omega)]
   refine next _ hlt ⟨G9,aa l3 l9,h.tail,fun y hy=> ?_⟩
   rw [bh hx] at hy
   rcases List.mem_append.1 hy with hy|hy
   ·exact hi y hy
   ·rw [List.mem_singleton.1 hy]
    exact hiff.1 ⟨by simpa using hb,Classical.not_not.1 e1,Classical.not_not.1 e2,Classical.not_not.1 e3,Classical.not_not.1 e4,Classical.not_not.1 e5,by omega⟩
  have hF:=cd (d:=x.cond) (n:=g.conds.length)
  generalize nU x.cond g.conds.length=fit at*
  have nil6:tt.len=0↔x.toks=[]:=by rw [ett];exact List.length_eq_zero_iff
  refine ⟨_,ld (h.le _ _ q6) rfl,?_⟩
  have j4:∀(b:Bool),(b=true↔x.k=3∨x.k=4)→¬(x.k=1∨x.k=2)→su N b1 b6 fit b8 f (k:Int) x.k b (fun r F'=>r=vi (if ∀x∈g.fils,bK g x then 0 else 53)∧F.le F') F9:=fun b hb hn12=>by
   unfold su
   refine ⟨fun hbt=> ?_,fun hbf=>⟨fun k5=> ?_,fun k5=> ?_⟩⟩
   ·have hk:=hb.1 hbt
    refine h.set0 (w':=nO 0 x.par x.pos x.ch 0 x.tok tt Sl.nil 0) (by simp) rfl fun F10 h=> ?_
    refine h.set0 (w':=nO 0 x.par x.pos x.ch 0 x.tok Sl.nil Sl.nil 0) (by simp) rfl fun F11 h=> ?_
    have bad':¬(0≤x.left∧x.left<g.nons.length∧eQ g (fun t=>decide (t.cls=0)) x.toks)→¬bK g x:=fun hn hok=>by
     rcases hok.2 with h'|h'|h'
     ·omega
     ·exact hn h'.2.1
     ·omega
    refine ⟨fun hft=>⟨_,ld (h.le _ _ q6) rfl,fun k1=>⟨_,ld (h.le _ _ q6) rfl,_,ld (h.le _ _ (l35 _ _ (l3 _ _ q1))) rfl,fun k2=>⟨_,rfl,aj (h.le _ _ (l35 _ _ (l3 _ _ q1))),_,ld (h.le _ _ q6) rfl,?_⟩,fun k2=> ?_⟩,fun k1=> ?_⟩,fun hff=> ?_⟩
    ·refine h.runv (gR (hg0.le (aa l3 l35)) (h1.le l35) hxl Jk (fun t=>decide (t.cls=0)) fun t c F1 _ hc=>iX hc) fun G10 F10 l10 h=>⟨_,rfl,?_⟩
     refine j2 _ _ _ _ _ _ _ G10 F10 (aa l35 l10) h ?_
     rw [decide_eq_true_eq]
     constructor
     ·rintro ⟨ha,e1,e2,e3,_,e5,_⟩
      exact ⟨hF.1 hft,.inr (.inl ⟨hk,⟨k1,by omega,ha⟩,e1,e2,e3,e5⟩)⟩
     ·intro hok
      rcases hok.2 with h'|h'|h'
      ·omega
      ·exact ⟨h'.2.1.2.2,h'.2.2.1,h'.2.2.2.1,h'.2.2.2.2.1,rfl,h'.2.2.2.2.2,rfl⟩
      ·omega
    ·exact j2 _ _ _ _ _ _ _ G5 F11 l35 h ⟨fun h=>(by cases h.1),fun hok=>absurd hok (bad' fun h=>k2 (by omega))⟩
    ·exact j2 _ _ _ _ _ _ _ G5 F11 l35 h ⟨fun h=>(by cases h.1),fun hok=>absurd hok (bad' fun h=>k1 h.1)⟩
    ·exact j2 _ _ _ _ _ _ _ G5 F11 l35 h ⟨fun h=>(by cases h.1),fun hok=>by rw [hF.2 hok.1] at hff;cases hff⟩
   ·refine h.set0 (w':=nO 0 x.par x.pos x.ch x.left 0 tt Sl.nil 0) (by simp) rfl fun F10 h=> ?_
    refine h.set0 (w':=nO 0 x.par x.pos x.ch x.left 0 Sl.nil Sl.nil 0) (by simp) rfl fun F11 h=> ?_
    have bad':¬(eQ g (fun t=> !decide (t.lit=emp)) x.toks∧0≤x.tok∧∃t,g.toks[x.tok.toNat]? =some t∧t.cls=0∧t.lit=emp)→¬bK g x:=fun hn hok=>by
     rcases hok.2 with h'|h'|h'
     ·omega
     ·omega
     ·exact hn h'.2.1
    have j5f:∀G10 F10,G3.le G10→St G10 F10 [pt b8 (.cells (nO 0 x.par x.pos x.ch x.left 0 Sl.nil Sl.nil 0) 74)]→¬bK g x→js N b1 b6 b8 f (k:Int) false (fun r F'=>r=vi (if ∀x∈g.fils,bK g x then 0 else 53)∧F.le F') F10:=fun G10 F10 l10 h hn=>by
     unfold js
     exact ⟨fun h=>(by cases h),fun _=>j2 _ _ _ _ _ _ _ G10 F10 l10 h ⟨fun h=>(by cases h.1),fun hok=>absurd hok hn⟩⟩
    refine ⟨fun hft=>⟨_,rfl,aj (h.le _ _ (l35 _ _ (l3 _ _ q1))),_,ld (h.le _ _ q6) rfl,?_⟩,fun hff=>j5f G5 F11 l35 h fun hok=>by rw [hF.2 hok.1] at hff;cases hff⟩
    refine h.runv (gR (hg0.le (aa l3 l35)) (h1.le l35) hxl Jl (fun t=> !decide (t.lit=emp)) fun t c F1 _ hc=>iY hc) fun G10 F10 l10 h=>⟨_,rfl,fun ha=> ?_,fun ha=>j5f G10 F10 (aa l35 l10) h (bad' fun h=>of_decide_eq_false ha h.1)⟩
    have ha:=of_decide_eq_true ha
    replace l35:=aa l35 l10
    replace q6:=l10 _ _ q6
    have p1:=l35 _ _ (l3 _ _ q1)
    refine ⟨_,ld (h.le _ _ q6) rfl,fun k1=>⟨_,ld (h.le _ _ q6) rfl,_,ld (h.le _ _ p1) rfl,?_⟩,fun k1=>j5f G10 F10 l35 h (bad' fun h=>k1 h.2.1)⟩
    by_cases k2:x.tok<(t.len:Int)
    ·dsimp only
     rw [decide_eq_true k2]
     unfold js
     refine ⟨fun _=>⟨_,ld (h.le _ _ p1) rfl,_,ld (h.le _ _ q6) rfl,h.ix (hs.t.le (aa l3 l35)) (by decide) k1 k2 fun a cc y hy hr hc=>⟨cc,Mem.len hc,hr,?_⟩⟩,fun h=>(by cases h)⟩
     refine h.runv (iX hc) fun G11 F11 l11 h=>⟨_,rfl,fun k3=>⟨_,ld (h.le _ _ (l11 _ _ p1)) rfl,_,ld (h.le _ _ (l11 _ _ q6)) rfl,h.ix (hs.t.le (aa l3 (aa l35 l11))) (by decide) k1 k2 fun a cc z hz hr hc=>⟨cc,Mem.len hc,hr,?_⟩⟩,fun k3=> ?_⟩
     ·rw [hy] at hz
      cases hz
      refine h.runv (iY hc) fun G12 F12 l12 h=>⟨_,rfl,?_⟩
      refine j2 _ _ _ _ _ _ _ G12 F12 (aa l35 (aa l11 l12)) h ?_
      rw [Bool.not_not,decide_eq_true_eq]
      constructor
      ·rintro ⟨hlit,e1,e2,e3,e4,_⟩
       exact ⟨hF.1 hft,.inr (.inr ⟨k5,⟨ha,k1,y,hy,of_decide_eq_true k3,hlit⟩,e1,e2,e3,e4⟩)⟩
      ·intro hok
       rcases hok.2 with h'|h'|h'
       ·omega
       ·omega
       ·obtain ⟨_,_,u,hu,_,hul⟩:=h'.2.1
        rw [hy] at hu
        cases hu
        exact ⟨hul,h'.2.2.1,h'.2.2.2.1,h'.2.2.2.2.1,h'.2.2.2.2.2,rfl,rfl⟩
     ·refine j2 _ _ _ _ _ _ _ G11 F11 (aa l35 l11) h ⟨fun h=>(by cases h.1),fun hok=>absurd hok (bad' fun h=> ?_)⟩
      obtain ⟨_,_,u,hu,hul,_⟩:=h
      rw [hy] at hu
      cases hu
      exact of_decide_eq_false k3 hul
    ·dsimp only
     rw [decide_eq_false k2]
     refine j5f G10 F10 l35 h (bad' fun h=> ?_)
     obtain ⟨_,_,u,hu,_,_⟩:=h
     have:=(List.getElem?_eq_some_iff.1 hu).1
     omega
   ·refine j2 _ _ _ _ _ _ _ G5 F9 l35 h ⟨fun h=>(by cases h.1),fun hok=> ?_⟩
    have:¬(x.k=3∨x.k=4):=fun h=>by rw [hb.2 h] at hbf;cases hbf
    rcases hok.2 with h'|h'|h'<;>omega
  have j3:∀(b:Bool),(b=true↔x.k=1∨x.k=2)→sA N b1 b6 fit b8 f (k:Int) x.k b (fun r F'=>r=vi (if ∀x∈g.fils,bK g x then 0 else 53)∧F.le F') F9:=fun b hb=>by
   unfold sA
   refine ⟨fun hbt=> ?_,fun hbf=> ?_⟩
   ·have hk:=hb.1 hbt
    refine h.set0 (w':=nO 0 0 x.pos x.ch x.left x.tok tt Sl.nil 0) (by simp) rfl fun F10 h=> ?_
    refine h.set0 (w':=nO 0 0 0 x.ch x.left x.tok tt Sl.nil 0) (by simp) rfl fun F11 h=> ?_
    refine h.set0 (w':=nO 0 0 0 0 x.left x.tok tt Sl.nil 0) (by simp) rfl fun F12 h=> ?_
    refine ⟨fun hft=>⟨_,rfl,aj (h.le _ _ (l35 _ _ (l3 _ _ q1))),_,rfl,aj (h.le _ _ q6),?_⟩,fun hff=> ?_⟩
    ·refine h.runv (za (hg0.le (aa l3 l35)) (Mem.le l35 hc0)) fun G10 F10 l10 h=>⟨_,rfl,?_⟩
     refine j2 _ _ _ _ _ _ _ G10 F10 (aa l35 l10) h ?_
     rw [decide_eq_true_eq]
     constructor
     ·rintro ⟨ha,_,_,_,e4,e5,e6⟩
      exact ⟨hF.1 hft,.inl ⟨hk,ha,e4,e5,nil6.1 e6⟩⟩
     ·intro hok
      rcases hok.2 with h'|h'|h'
      ·exact ⟨h'.2.1,rfl,rfl,rfl,h'.2.2.1,h'.2.2.2.1,nil6.2 h'.2.2.2.2⟩
      ·omega
      ·omega
    ·exact j2 _ _ _ _ _ _ _ G5 F12 l35 h ⟨fun h=>(by cases h.1),fun hok=>by rw [hF.2 hok.1] at hff;cases hff⟩
   ·have hn:¬(x.k=1∨x.k=2):=fun h=>by rw [hb.2 h] at hbf;cases hbf
    exact ⟨fun e=>j4 _ (by rw [decide_eq_true_eq];omega) hn,fun e=>j4 _ (by rw [decide_eq_true_eq];omega) hn⟩
  exact ⟨fun e=>j3 _ (by rw [decide_eq_true_eq];omega),fun e=>j3 _ (by rw [decide_eq_true_eq];omega)⟩
 ·have e:k=g.fils.length:=by omega
  subst e
  rw [List.take_length] at hi
  unfold CO
  exact ⟨by rw [if_pos hi],aa l1 (aa l3 h.le)⟩
def Dm (n:Nat) (done:List ByteArray) (t:Tk):Prop:=t.name≠emp∧t.name ∉ done∧0≤t.cls∧t.cls≤2∧gD t.cond n∧(t.lit≠emp→t.smp=emp∧t.pat=[])∧
 (t.lit=emp→gH t.pat=0∧(t.cls=0→t.smp≠emp∧LgL t.pat (bs t.smp))∧(t.cls≠0→t.smp=emp))
def dC (n:Nat) (done:List ByteArray):List Tk→Prop
 |[]=>True
 |t::r=>Dm n done t∧dC n (done++[t.name]) r
open Classical in
theorem kN {F:PH} {v:Array Value} {g:Gr} (hT:Tab F) (hg:GV F v g) (hl:co g=false) (hz:Sz g):ae prog 76 #[.agg v] F fun r F'=>r=vi (if dC g.conds.length [] g.toks then 0 else 51)∧F.le F':=by
 obtain ⟨_,hlt',_⟩:=fJ hl
 obtain ⟨c,n,t,s,p,lv,f,rfl,hs⟩:=hg
 have ec:=hs.c.len (by decide)
 have et:=hs.t.len (by decide)
 refine OG ?_
 unfold L5
 refine fresh fun b1 F1 l1 q1 _=> ?_
 replace hs:=hs.le l1
 replace hT:=hT.le l1
 refine (gb F1).mono ?_
 rintro _ F2 ⟨G2,bn,m,rfl,l2,hcn,h⟩
 refine ⟨_,rfl,_,ld (h.le _ _ (l2 _ _ q1)) rfl,?_⟩
 refine cZ (wc · b1 (tS bn) t _) g.toks.length (fun k F'=>∃G,G2.le G∧St G F' [cg m ((g.toks.take k).map Tk.name).reverse]∧(dC g.conds.length [] g.toks↔dC g.conds.length ((g.toks.take k).map Tk.name) (g.toks.drop k)))
  ⟨G2,le_refl' _,h,by simp⟩ ?_
 rintro k F3 N hk ⟨G3,l3,h,hE⟩ next
 have l13:=aa l2 l3
 unfold wc
 refine ⟨fun hlt=> ?_,fun hge=> ?_⟩
 ·have hlt:k<g.toks.length:=by omega
  refine h.ix (hs.t.le l13) (by decide) (by omega) (by omega) fun a cc x hx hr hc=> ?_
  rw [Int.toNat_natCast] at hx
  have hxm:x∈g.toks:=List.mem_of_getElem? hx
  have hxz:=hz.t x hxm
  rw [kO hx,dC] at hE
  have hst:=Mem.st hc
  obtain ⟨pp,nn,rfl,h1,h2⟩:=hc
  have epp:=h1.len (by decide)
  refine ⟨x.arr pp nn,rfl,hr,?_⟩
  refine h.var hst fun b5 G4 F4 l4 q5 h=> ?_
  have bad:∀{F'},G3.le F'→¬Dm g.conds.length ((g.toks.take k).map Tk.name) x→(vi 51=vi (if dC g.conds.length [] g.toks then 0 else 51)∧F.le F'):=fun {F'} l hn=>⟨by rw [if_neg (fun h=>hn (hE.1 h).1)],aa l1 (aa l13 l)⟩
  refine ⟨_,ld (h.le _ _ q5) rfl,?_⟩
  refine me h (aq (aa l3 l4) hcn) x.name fun G5 F5 l5 h=>⟨_,rfl,fun hb=>bad (aa l4 (aa l5 h.le)) fun hn=> ?_,fun hb=> ?_⟩
  ·rw [decide_eq_true ⟨hn.1,hn.2.1⟩] at hb;cases hb
  have hnm:x.name≠emp∧x.name ∉ (g.toks.take k).map Tk.name:=by simpa using hb
  have l35:=aa l4 l5
  replace q5:=l5 _ _ q5
  refine ⟨_,ld (h.le _ _ q5) rfl,fun hb=>bad (aa l35 h.le) fun hn=>by have:=hn.2.2.1;omega,fun c0=>⟨_,ld (h.le _ _ q5) rfl,fun hb=>bad (aa l35 h.le) fun hn=>by have:=hn.2.2.2.1;omega,fun c2=>⟨#[nn.v,vi x.cond.2],rfl,nX (h.le _ _ q5) rfl,_,ld (h.le _ _ (l35 _ _ (l13 _ _ q1))) rfl,?_⟩⟩⟩
  dsimp only
  rw [ec]
  refine h.runv (fL (d:=x.cond) (DV.mk (h2.le l35))) fun G6 F6 l6 h=>⟨_,rfl,fun hb=>bad (aa l35 (aa l6 h.le)) fun hn=> ?_,fun hb=> ?_⟩
  ·rw [cd.2 hn.2.2.2.2.1] at hb;cases hb
  have hfit:gD x.cond g.conds.length:=cd.1 (by simpa using hb)
  replace l35:=aa l35 l6
  replace q5:=l6 _ _ q5
  have e:(g.toks.take k).map Tk.name++[x.name]=(g.toks.take (k+1)).map Tk.name:=by rw [bh hx,List.map_append];rfl
  have j2:∀(fine:Bool) G9 F9,G3.le G9→St G9 F9 [cg m ((g.toks.take k).map Tk.name++[x.name]).reverse]→(fine=true↔Dm g.conds.length ((g.toks.take k).map Tk.name) x)→
    io N b1 (tS bn) t (k:Int) fine (fun r F'=>r=vi (if dC g.conds.length [] g.toks then 0 else 51)∧F.le F') F9:=fun fine G9 F9 l9 h hiff=>by
   unfold io
   refine ⟨fun hb=>bad (aa l9 h.le) fun hn=>(by rw [hiff.2 hn] at hb;cases hb),fun hb=> ?_⟩
   rw [aV hlt (by omega)]
   have hok:=hiff.1 (by simpa using hb)
   rw [e] at h hE
   exact next _ hlt ⟨G9,aa l3 l9,h,hE.trans ⟨fun h=>h.2,fun h=>⟨hok,h⟩⟩⟩
  refine ⟨_,ld (h.le _ _ q5) rfl,_,ld (h.le _ _ q5) rfl,fun hlit=> ?_,fun hlit=> ?_⟩
  ·rw [nT] at hlit
   have hlit:x.lit≠emp:=by simpa using hlit
   rw [nT]
   refine ⟨fun hsm=>⟨_,ld (h.le _ _ q5) rfl,?_⟩,fun hsm=> ?_⟩
   ·have hsm:=of_decide_eq_true hsm
    refine j2 _ G6 F6 l35 h ?_
    rw [decide_eq_true_eq]
    constructor
    ·intro h0
     exact ⟨hnm.1,hnm.2,by omega,by omega,hfit,fun _=>⟨hsm,List.eq_nil_of_length_eq_zero (by omega)⟩,fun h=>absurd h hlit⟩
    ·intro hok
     rw [(hok.2.2.2.2.2.1 hlit).2] at epp
     simp at epp
     omega
   ·have hsm:=of_decide_eq_false hsm
    exact j2 _ G6 F6 l35 h ⟨fun h=>(by cases h),fun hok=>absurd (hok.2.2.2.2.2.1 hlit).1 hsm⟩
  ·rw [nT] at hlit
   have hlit:x.lit=emp:=by simpa using hlit
   refine ⟨_,ld (h.le _ _ q5) rfl,?_⟩
   refine h.runv (lM (RL.nds.1 (h1.le l35))) fun G7 F7 l7 h=>⟨_,rfl,fun hp=>j2 _ G7 F7 (aa l35 l7) h ⟨fun h=>(by cases h),fun hok=>absurd (hok.2.2.2.2.2.2 hlit).1 hp⟩,fun hp=>⟨_,ld (h.le _ _ (l7 _ _ q5)) rfl,?_⟩⟩
   have hp:=Classical.not_not.1 hp
   replace l35:=aa l35 l7
   replace q5:=l7 _ _ q5
   have mk:((x.cls=0→x.smp≠emp∧LgL x.pat (bs x.smp))∧(x.cls≠0→x.smp=emp))→Dm g.conds.length ((g.toks.take k).map Tk.name) x:=fun hm=>⟨hnm.1,hnm.2,by omega,by omega,hfit,fun h=>absurd hlit h,fun _=>⟨hp,hm⟩⟩
   rw [nT]
   refine ⟨fun hc0=>⟨fun hsm=>⟨_,ld (h.le _ _ q5) rfl,_,ld (h.le _ _ q5) rfl,?_⟩,fun hsm=> ?_⟩,fun hc0=> ?_⟩
   ·have hsm:x.smp≠emp:=by simpa using hsm
    refine (h.call (pQ (hT.le (aa l13 l35)) (RL.nds.1 (h1.le l35)) x.smp (by omega))).mono ?_
    rintro _ F8 ⟨G8,⟨⟨q,rfl,hq⟩,l8⟩,h⟩
    refine ⟨_,rfl,j2 _ G8 F8 (aa l35 l8) h ?_⟩
    rw [hq]
    exact ⟨fun hm=>mk ⟨fun _=>⟨hsm,hm.2⟩,fun h=>absurd hc0 h⟩,fun hok=>⟨hp,((hok.2.2.2.2.2.2 hlit).2.1 hc0).2⟩⟩
   ·have hsm:x.smp=emp:=by simpa using hsm
    exact j2 _ G7 F7 l35 h ⟨fun h=>(by cases h),fun hok=>absurd hsm ((hok.2.2.2.2.2.2 hlit).2.1 hc0).1⟩
   ·refine j2 _ G7 F7 l35 h ?_
    rw [decide_eq_true_eq]
    exact ⟨fun hm=>mk ⟨fun h=>absurd h hc0,fun _=>hm⟩,fun hok=>(hok.2.2.2.2.2.2 hlit).2.2 hc0⟩
 ·have e:k=g.toks.length:=by omega
  subst e
  rw [List.drop_length,dC] at hE
  unfold CI
  exact ⟨by rw [if_pos (hE.2 trivial)],aa l1 (aa l13 h.le)⟩
open Classical in
noncomputable def cK (g:Gr):Int:=
 if co g=true then 2 else if ¬eR g then 54 else if ¬dC g.conds.length [] g.toks then 51 else if ¬dQ g then 50 else if cy g [] g.prods≠0 then cy g [] g.prods
 else if ¬dE g [] g.lvs then 53 else if ¬∀x∈g.fils,bK g x then 53 else 0
structure OkG (g:Gr):Prop where
 large:co g=false
 fam:eR g
 toks:dC g.conds.length [] g.toks
 nons:dQ g
 prods:cy g [] g.prods=0
 lvs:dE g [] g.lvs
 fils:∀x∈g.fils,bK g x
theorem eY {g:Gr}:cK g=0↔OkG g:=by
 unfold cK
 constructor
 ·intro h
  split at h
  ·cases h
  ·rename_i h1
   split at h
   ·cases h
   ·rename_i h2
    split at h
    ·cases h
    ·rename_i h3
     split at h
     ·cases h
     ·rename_i h4
      split at h
      ·rename_i h5;exact absurd h h5
      ·rename_i h5
       split at h
       ·cases h
       ·rename_i h6
        split at h
        ·cases h
        ·rename_i h7
         exact ⟨by simpa using h1,Classical.not_not.1 h2,Classical.not_not.1 h3,Classical.not_not.1 h4,Classical.not_not.1 h5,Classical.not_not.1 h6,Classical.not_not.1 h7⟩
 ·rintro ⟨h1,h2,h3,h4,h5,h6,h7⟩
  rw [if_neg (by simp [h1]),if_neg (fun h=>h h2),if_neg (fun h=>h h3),if_neg (fun h=>h h4),if_neg (fun h=>h h5),if_neg (fun h=>h h6),if_neg (fun h=>h h7)]
theorem Dn:aC prog 75=true∧aC prog 76=true∧aC prog 77=true∧aC prog 78=true∧aC prog 79=true∧aC prog 80=true:=by
 refine ⟨?_,?_,?_,?_,?_,?_⟩<;>kernel_rfl
open Classical in
noncomputable def tO (g:Gr) (k:Nat):Int:=match k with
 |0=>if eR g then 0 else 54
 |1=>if dC g.conds.length [] g.toks then 0 else 51
 |2=>if dQ g then 0 else 50
 |3=>cy g [] g.prods
 |4=>if dE g [] g.lvs then 0 else 53
 |_=>if ∀x∈g.fils,bK g x then 0 else 53
def wP (k:Nat):Nat:=match k with
 |0=>75
 |1=>76
 |2=>77
 |3=>78
 |4=>79
 |_=>80
theorem zc {F:PH} {v:Array Value} {g:Gr} (hT:Tab F) (hg:GV F v g) (hl:co g=false) (hz:Sz g) (k:Nat):aC prog (wP k)=true∧ae prog (wP k) #[.agg v] F fun r F'=>r=vi (tO g k)∧F.le F':=by
 obtain ⟨c1,c2,c3,c4,c5,c6⟩:=Dn
 have hb:=fJ hl
 match k with
 |0=>exact ⟨c1,kQ hg hz hb.1⟩
 |1=>exact ⟨c2,kN hT hg hl hz⟩
 |2=>exact ⟨c3,nW hg hb.2.2.2.1⟩
 |3=>exact ⟨c4,lR hg hl⟩
 |4=>exact ⟨c5,kP hg hl hz⟩
 |n+5=>exact ⟨c6,jG hg hl hz⟩
theorem nz0 {p:Prop} [Decidable p] {a:Int} (ha:a≠0) (h:(if p then 0 else a)=0):p:=by
 by_cases hp:p
 ·exact hp
 ·rw [if_neg hp] at h;exact absurd h ha
open Classical in
theorem eZ {F:PH} {v:Array Value} {g:Gr} (hT:Tab F) (hg:GV F v g) (hz:Sz g):ae prog 20 #[.agg v] F fun r F'=>r=vi (cK g)∧F.le F':=by
 refine OA ?_
 unfold LX
 refine fresh fun b1 F1 l1 q1 _=>⟨v,hg.size,aj q1,?_⟩
 refine (vc (hg.le l1)).mono ?_
 rintro _ F2 ⟨rfl,l2⟩
 replace l1:=aa l1 l2
 replace q1:=l2 _ _ q1
 refine ⟨_,rfl,fun hb=>⟨?_,l1⟩,fun hb=> ?_⟩
 ·unfold cK;rw [if_pos hb]
 refine fresh fun b9 F3 l3 q9 _=> ?_
 replace l1:=aa l1 l3
 replace q1:=l3 _ _ q1
 have hfin:∀k,k<6→(∀j,j<k→tO g j=0)→tO g k≠0→cK g=tO g k:=fun k hk hj hne=>by
  have s0:0<k→eR g:=fun h=>nz0 (a:=54) (by decide) (hj 0 h)
  have s1:1<k→dC g.conds.length [] g.toks:=fun h=>nz0 (a:=51) (by decide) (hj 1 h)
  have s2:2<k→dQ g:=fun h=>nz0 (a:=50) (by decide) (hj 2 h)
  have s3:3<k→cy g [] g.prods=0:=fun h=>hj 3 h
  have s4:4<k→dE g [] g.lvs:=fun h=>nz0 (a:=53) (by decide) (hj 4 h)
  unfold cK
  rw [if_neg (by simp [hb])]
  match k,hk with
  |0,_=>
   have hn:¬eR g:=fun h=>hne (if_pos h)
   rw [if_pos hn];exact (if_neg hn).symm
  |1,_=>
   have hn:¬dC g.conds.length [] g.toks:=fun h=>hne (if_pos h)
   rw [if_neg (fun h=>h (s0 (by decide))),if_pos hn];exact (if_neg hn).symm
  |2,_=>
   have hn:¬dQ g:=fun h=>hne (if_pos h)
   rw [if_neg (fun h=>h (s0 (by decide))),if_neg (fun h=>h (s1 (by decide))),if_pos hn];exact (if_neg hn).symm
  |3,_=>
   rw [if_neg (fun h=>h (s0 (by decide))),if_neg (fun h=>h (s1 (by decide))),if_neg (fun h=>h (s2 (by decide))),if_pos (show cy g [] g.prods≠0 from hne)];rfl
  |4,_=>
   have hn:¬dE g [] g.lvs:=fun h=>hne (if_pos h)
   rw [if_neg (fun h=>h (s0 (by decide))),if_neg (fun h=>h (s1 (by decide))),if_neg (fun h=>h (s2 (by decide))),if_neg (fun h=>h (s3 (by decide))),if_pos hn];exact (if_neg hn).symm
  |5,_=>
   have hn:¬∀x∈g.fils,bK g x:=fun h=>hne (if_pos h)
   rw [if_neg (fun h=>h (s0 (by decide))),if_neg (fun h=>h (s1 (by decide))),if_neg (fun h=>h (s2 (by decide))),if_neg (fun h=>h (s3 (by decide))),if_neg (fun h=>h (s4 (by decide))),if_pos hn];exact (if_neg hn).symm
 refine cZ (wa · b1 b9 _) 6 (fun k F'=>F3.le F'∧∀j,j<k→tO g j=0) ⟨le_refl' _,fun j h=>by omega⟩ ?_
 rintro k F4 N hk ⟨l4,hi⟩ next
 unfold wa
 refine ⟨fun hlt=> ?_,fun hge=> ?_⟩
 ·have hlt:k<6:=by simp only at hlt;omega
  refine ⟨_,rfl,by omega,by simp only;omega,.func (.func (wP k)) #[] #[],?_,v,hg.size,aj (l4 _ _ q1),wP k,#[],#[],rfl,?_⟩
  ·rw [Int.toNat_natCast,aL,am (l4 _ _ q9)]
   match k,hlt with
   |0,_=>rfl
   |1,_=>rfl
   |2,_=>rfl
   |3,_=>rfl
   |4,_=>rfl
   |5,_=>rfl
  ·obtain ⟨h1,h2⟩:=zc (hT.le (aa l1 l4)) (hg.le (aa l1 l4)) hb hz k
   refine ⟨h1,?_⟩
   have e:(#[]:Array Value)++[Value.agg v].toArray++ #[]= #[.agg v]:=by simp
   dsimp only
   rw [e]
   refine h2.mono ?_
   rintro _ F5 ⟨rfl,l5⟩
   refine ⟨_,rfl,fun hne=>⟨by rw [hfin k hlt hi hne],aa l1 (aa l4 l5)⟩,fun hz0=> ?_⟩
   rw [aV hlt (by omega)]
   refine next _ hlt ⟨aa l4 l5,fun j hj=> ?_⟩
   by_cases e:j=k
   ·rw [e];exact Classical.not_not.1 hz0
   ·exact hi j (by omega)
 ·have e:k=6:=by simp only at hge;omega
  subst e
  unfold CG
  refine ⟨?_,aa l1 l4⟩
  rw [eY.2 ⟨hb,nz0 (a:=54) (by decide) (hi 0 (by decide)),nz0 (a:=51) (by decide) (hi 1 (by decide)),nz0 (a:=50) (by decide) (hi 2 (by decide)),hi 3 (by decide),nz0 (a:=53) (by decide) (hi 4 (by decide)),nz0 (a:=53) (by decide) (hi 5 (by decide))⟩]
end Go.Proofs.YtenpmjhnhepfdaaGreatDoor
