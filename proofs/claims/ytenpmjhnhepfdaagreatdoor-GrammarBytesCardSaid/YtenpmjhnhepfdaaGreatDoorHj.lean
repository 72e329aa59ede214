/-
  Same: lists compared element by element; grammars compared.
-/
import Derived.Test.YtenpmjhnhepfdaaGreatDoorHh
namespace Go.Proofs.YtenpmjhnhepfdaaGreatDoor
open Go Go.Proofs.Tryz
set_option maxRecDepth 10000
def Bp (n:Nat) (done:List ByteArray) (t:Tk):Prop:=t.name≠emp∧t.name ∉ done∧0≤t.cls∧t.cls≤2∧gK t.cond n∧(t.lit≠emp→t.smp=emp∧t.pat=[])∧
 (t.lit=emp→fX t.pat=0∧(t.cls=0→t.smp≠emp∧LgL t.pat (bs t.smp))∧(t.cls≠0→t.smp=emp))
def du (n:Nat) (done:List ByteArray):List Tk→Prop
 |[]=>True
 |t::r=>Bp n done t∧du n (done++[t.name]) r
open Classical in
theorem lz {F:PH} {v:Array Value} {g:Gr} (hT:Tab F) (hg:GV F v g) (hl:cn g=false) (hz:Sz g):ac prog 76 #[.agg v] F fun r F'=>r=vi (if du g.conds.length [] g.toks then 0 else 51)∧F.le F':=by
 obtain ⟨_,hlt',_⟩:=eR hl
 obtain ⟨c,n,t,s,p,lv,f,rfl,hs⟩:=hg
 have ec:=hs.c.len (by decide)
 have et:=hs.t.len (by decide)
 refine Qt ?_
 unfold M8
 refine fresh fun b1 F1 l1 q1 _=> ?_
 replace hs:=hs.le l1
 replace hT:=hT.le l1
 refine (gj F1).mono ?_
 rintro _ F2 ⟨G2,bn,m,rfl,l2,hcn,h⟩
 refine ⟨_,rfl,_,ld (h.le _ _ (l2 _ _ q1)) rfl,?_⟩
 refine bW (wO · b1 (uj bn) t _) g.toks.length (fun k F'=>∃G,G2.le G∧St G F' [cg m ((g.toks.take k).map Tk.name).reverse]∧(du g.conds.length [] g.toks↔du g.conds.length ((g.toks.take k).map Tk.name) (g.toks.drop k)))
  ⟨G2,le_refl' _,h,by simp⟩ ?_
 rintro k F3 N hk ⟨G3,l3,h,hE⟩ next
 have l13:=aa l2 l3
 unfold wO
 refine ⟨fun hlt=> ?_,fun hge=> ?_⟩
 ·have hlt:k<g.toks.length:=by omega
  refine h.ix (hs.t.le l13) (by decide) (by omega) (by omega) fun a cc x hx hr hc=> ?_
  rw [Int.toNat_natCast] at hx
  have hxm:x∈g.toks:=List.mem_of_getElem? hx
  have hxz:=hz.t x hxm
  rw [iJ hx,du] at hE
  have hst:=Mem.st hc
  obtain ⟨pp,nn,rfl,h1,h2⟩:=hc
  have epp:=h1.len (by decide)
  refine ⟨x.arr pp nn,rfl,hr,?_⟩
  refine h.var hst fun b5 G4 F4 l4 q5 h=> ?_
  have bad:∀{F'},G3.le F'→¬Bp g.conds.length ((g.toks.take k).map Tk.name) x→(vi 51=vi (if du g.conds.length [] g.toks then 0 else 51)∧F.le F'):=fun {F'} l hn=>⟨by rw [if_neg (fun h=>hn (hE.1 h).1)],aa l1 (aa l13 l)⟩
  refine ⟨_,ld (h.le _ _ q5) rfl,?_⟩
  refine mL h (aq (aa l3 l4) hcn) x.name fun G5 F5 l5 h=>⟨_,rfl,fun hb=>bad (aa l4 (aa l5 h.le)) fun hn=> ?_,fun hb=> ?_⟩
  ·rw [decide_eq_true ⟨hn.1,hn.2.1⟩] at hb;cases hb
  have hnm:x.name≠emp∧x.name ∉ (g.toks.take k).map Tk.name:=by simpa using hb
  have l35:=aa l4 l5
  replace q5:=l5 _ _ q5
  refine ⟨_,ld (h.le _ _ q5) rfl,fun hb=>bad (aa l35 h.le) fun hn=>by have:=hn.2.2.1;omega,fun c0=>⟨_,ld (h.le _ _ q5) rfl,fun hb=>bad (aa l35 h.le) fun hn=>by have:=hn.2.2.2.1;omega,fun c2=>⟨#[nn.v,vi x.cond.2],rfl,ft (h.le _ _ q5) rfl,_,ld (h.le _ _ (l35 _ _ (l13 _ _ q1))) rfl,?_⟩⟩⟩
  dsimp only
  rw [ec]
  refine h.runv (fR (d:=x.cond) (DV.mk (h2.le l35))) fun G6 F6 l6 h=>⟨_,rfl,fun hb=>bad (aa l35 (aa l6 h.le)) fun hn=> ?_,fun hb=> ?_⟩
  ·rw [bZ.2 hn.2.2.2.2.1] at hb;cases hb
  have hfit:gK x.cond g.conds.length:=bZ.1 (by simpa using hb)
  replace l35:=aa l35 l6
  replace q5:=l6 _ _ q5
  have e:(g.toks.take k).map Tk.name++[x.name]=(g.toks.take (k+1)).map Tk.name:=by rw [be hx,List.map_append];rfl
  have j2:∀(fine:Bool) G9 F9,G3.le G9→St G9 F9 [cg m ((g.toks.take k).map Tk.name++[x.name]).reverse]→(fine=true↔Bp g.conds.length ((g.toks.take k).map Tk.name) x)→
    im N b1 (uj bn) t (k:Int) fine (fun r F'=>r=vi (if du g.conds.length [] g.toks then 0 else 51)∧F.le F') F9:=fun fine G9 F9 l9 h hiff=>by
   unfold im
   refine ⟨fun hb=>bad (aa l9 h.le) fun hn=>(by rw [hiff.2 hn] at hb;cases hb),fun hb=> ?_⟩
   rw [aQ hlt (by omega)]
   have hok:=hiff.1 (by simpa using hb)
   rw [e] at h hE
   exact next _ hlt ⟨G9,aa l3 l9,h,hE.trans ⟨fun h=>h.2,fun h=>⟨hok,h⟩⟩⟩
  refine ⟨_,ld (h.le _ _ q5) rfl,_,ld (h.le _ _ q5) rfl,fun hlit=> ?_,fun hlit=> ?_⟩
  ·rw [gU] at hlit
   have hlit:x.lit≠emp:=by simpa using hlit
   rw [gU]
   refine ⟨fun hsm=>⟨_,ld (h.le _ _ q5) rfl,?_⟩,fun hsm=> ?_⟩
   ·have hsm:=of_decide_eq_true hsm
    refine j2 _ G6 F6 l35 h ?_
    rw [decide_eq_true_eq]
    constructor
    ·intro h0
     exact ⟨hnm.1,hnm.2,by omega,by omega,hfit,fun _=>⟨hsm,List.eq_nil_of_length_eq_zero (by omega)⟩,fun h=>absurd h hlit⟩
    ·intro hok
     rw [(hok.2.2.2.2.2.1 hlit).2] at epp
     simp at epp
     omega
   ·have hsm:=of_decide_eq_false hsm
    exact j2 _ G6 F6 l35 h ⟨fun h=>(by cases h),fun hok=>absurd (hok.2.2.2.2.2.1 hlit).1 hsm⟩
  ·rw [gU] at hlit
   have hlit:x.lit=emp:=by simpa using hlit
   refine ⟨_,ld (h.le _ _ q5) rfl,?_⟩
   refine h.runv (mq (RL.nds.1 (h1.le l35))) fun G7 F7 l7 h=>⟨_,rfl,fun hp=>j2 _ G7 F7 (aa l35 l7) h ⟨fun h=>(by cases h),fun hok=>absurd (hok.2.2.2.2.2.2 hlit).1 hp⟩,fun hp=>⟨_,ld (h.le _ _ (l7 _ _ q5)) rfl,?_⟩⟩
   have hp:=Classical.not_not.1 hp
   replace l35:=aa l35 l7
   replace q5:=l7 _ _ q5
   have mk:((x.cls=0→x.smp≠emp∧LgL x.pat (bs x.smp))∧(x.cls≠0→x.smp=emp))→Bp g.conds.length ((g.toks.take k).map Tk.name) x:=fun hm=>⟨hnm.1,hnm.2,by omega,by omega,hfit,fun h=>absurd hlit h,fun _=>⟨hp,hm⟩⟩
   rw [gU]
   refine ⟨fun hc0=>⟨fun hsm=>⟨_,ld (h.le _ _ q5) rfl,_,ld (h.le _ _ q5) rfl,?_⟩,fun hsm=> ?_⟩,fun hc0=> ?_⟩
   ·have hsm:x.smp≠emp:=by simpa using hsm
    refine (h.call (qv (hT.le (aa l13 l35)) (RL.nds.1 (h1.le l35)) x.smp (by omega))).mono ?_
    rintro _ F8 ⟨G8,⟨⟨q,rfl,hq⟩,l8⟩,h⟩
    refine ⟨_,rfl,j2 _ G8 F8 (aa l35 l8) h ?_⟩
    rw [hq]
    exact ⟨fun hm=>mk ⟨fun _=>⟨hsm,hm.2⟩,fun h=>absurd hc0 h⟩,fun hok=>⟨hp,((hok.2.2.2.2.2.2 hlit).2.1 hc0).2⟩⟩
   ·have hsm:x.smp=emp:=by simpa using hsm
    exact j2 _ G7 F7 l35 h ⟨fun h=>(by cases h),fun hok=>absurd hsm ((hok.2.2.2.2.2.2 hlit).2.1 hc0).1⟩
   ·refine j2 _ G7 F7 l35 h ?_
    rw [decide_eq_true_eq]
    exact ⟨fun hm=>mk ⟨fun h=>absurd h hc0,fun _=>hm⟩,fun hok=>(hok.2.2.2.2.2.2 hlit).2.2 hc0⟩
 ·have e:k=g.toks.length:=by omega
  subst e
  rw [List.drop_length,du] at hE
  unfold Dg
  exact ⟨by rw [if_pos (hE.2 trivial)],aa l1 (aa l13 h.le)⟩
open Classical in
noncomputable def cf (g:Gr):Int:=
 if cn g=true then 2 else if ¬eV g then 54 else if ¬du g.conds.length [] g.toks then 51 else if ¬d3 g then 50 else if bY g [] g.prods≠0 then bY g [] g.prods
 else if ¬dv g [] g.lvs then 53 else if ¬∀x∈g.fils,bL g x then 53 else 0
structure OkG (g:Gr):Prop where
 large:cn g=false
 fam:eV g
 toks:du g.conds.length [] g.toks
 nons:d3 g
 prods:bY g [] g.prods=0
 lvs:dv g [] g.lvs
 fils:∀x∈g.fils,bL g x
theorem eZ {g:Gr}:cf g=0↔OkG g:=by
 unfold cf
 constructor
 ·intro h
  split at h
  ·cases h
  ·rename_i h1
   split at h
   ·cases h
   ·rename_i h2
    split at h
    ·cases h
    ·rename_i h3
     split at h
     ·cases h
     ·rename_i h4
      split at h
      ·rename_i h5;exact absurd h h5
      ·rename_i h5
       split at h
       ·cases h
       ·rename_i h6
        split at h
        ·cases h
        ·rename_i h7
         exact ⟨by simpa using h1,Classical.not_not.1 h2,Classical.not_not.1 h3,Classical.not_not.1 h4,Classical.not_not.1 h5,Classical.not_not.1 h6,Classical.not_not.1 h7⟩
 ·rintro ⟨h1,h2,h3,h4,h5,h6,h7⟩
  rw [if_neg (by simp [h1]),if_neg (fun h=>h h2),if_neg (fun h=>h h3),if_neg (fun h=>h h4),if_neg (fun h=>h h5),if_neg (fun h=>h h6),if_neg (fun h=>h h7)]
theorem Ed:au prog 75=true∧au prog 76=true∧au prog 77=true∧au prog 78=true∧au prog 79=true∧au prog 80=true:=by
 refine ⟨?_,?_,?_,?_,?_,?_⟩<;>kernel_rfl
open Classical in
noncomputable def ub (g:Gr) (k:Nat):Int:=match k with
 |0=>if eV g then 0 else 54
 |1=>if du g.conds.length [] g.toks then 0 else 51
 |2=>if d3 g then 0 else 50
 |3=>bY g [] g.prods
 |4=>if dv g [] g.lvs then 0 else 53
 |_=>if ∀x∈g.fils,bL g x then 0 else 53
def xz (k:Nat):Nat:=match k with
 |0=>75
 |1=>76
 |2=>77
 |3=>78
 |4=>79
 |_=>80
theorem zS {F:PH} {v:Array Value} {g:Gr} (hT:Tab F) (hg:GV F v g) (hl:cn g=false) (hz:Sz g) (k:Nat):au prog (xz k)=true∧ac prog (xz k) #[.agg v] F fun r F'=>r=vi (ub g k)∧F.le F':=by
 obtain ⟨c1,c2,c3,c4,c5,c6⟩:=Ed
 have hb:=eR hl
 match k with
 |0=>exact ⟨c1,lC hg hz hb.1⟩
 |1=>exact ⟨c2,lz hT hg hl hz⟩
 |2=>exact ⟨c3,oo hg hb.2.2.2.1⟩
 |3=>exact ⟨c4,mz hg hl⟩
 |4=>exact ⟨c5,lA hg hl hz⟩
 |n+5=>exact ⟨c6,jQ hg hl hz⟩
theorem nz0 {p:Prop} [Decidable p] {a:Int} (ha:a≠0) (h:(if p then 0 else a)=0):p:=by
 by_cases hp:p
 ·exact hp
 ·rw [if_neg hp] at h;exact absurd h ha
open Classical in
theorem fa {F:PH} {v:Array Value} {g:Gr} (hT:Tab F) (hg:GV F v g) (hz:Sz g):ac prog 20 #[.agg v] F fun r F'=>r=vi (cf g)∧F.le F':=by
 refine Ql ?_
 unfold MZ
 refine fresh fun b1 F1 l1 q1 _=>⟨v,hg.size,ak q1,?_⟩
 refine (vM (hg.le l1)).mono ?_
 rintro _ F2 ⟨rfl,l2⟩
 replace l1:=aa l1 l2
 replace q1:=l2 _ _ q1
 refine ⟨_,rfl,fun hb=>⟨?_,l1⟩,fun hb=> ?_⟩
 ·unfold cf;rw [if_pos hb]
 refine fresh fun b9 F3 l3 q9 _=> ?_
 replace l1:=aa l1 l3
 replace q1:=l3 _ _ q1
 have hfin:∀k,k<6→(∀j,j<k→ub g j=0)→ub g k≠0→cf g=ub g k:=fun k hk hj hne=>by
  have s0:0<k→eV g:=fun h=>nz0 (a:=54) (by decide) (hj 0 h)
  have s1:1<k→du g.conds.length [] g.toks:=fun h=>nz0 (a:=51) (by decide) (hj 1 h)
  have s2:2<k→d3 g:=fun h=>nz0 (a:=50) (by decide) (hj 2 h)
  have s3:3<k→bY g [] g.prods=0:=fun h=>hj 3 h
  have s4:4<k→dv g [] g.lvs:=fun h=>nz0 (a:=53) (by decide) (hj 4 h)
  unfold cf
  rw [if_neg (by simp [hb])]
  match k,hk with
  |0,_=>
   have hn:¬eV g:=fun h=>hne (if_pos h)
   rw [if_pos hn];exact (if_neg hn).symm
  |1,_=>
   have hn:¬du g.conds.length [] g.toks:=fun h=>hne (if_pos h)
   rw [if_neg (fun h=>h (s0 (by decide))),if_pos hn];exact (if_neg hn).symm
  |2,_=>
   have hn:¬d3 g:=fun h=>hne (if_pos h)
   rw [if_neg (fun h=>h (s0 (by decide))),if_neg (fun h=>h (s1 (by decide))),if_pos hn];exact (if_neg hn).symm
  |3,_=>
   rw [if_neg (fun h=>h (s0 (by decide))),if_neg (fun h=>h (s1 (by decide))),if_neg (fun h=>h (s2 (by decide))),if_pos (show bY g [] g.prods≠0 from hne)];rfl
  |4,_=>
   have hn:¬dv g [] g.lvs:=fun h=>hne (if_pos h)
   rw [if_neg (fun h=>h (s0 (by decide))),if_neg (fun h=>h (s1 (by decide))),if_neg (fun h=>h (s2 (by decide))),if_neg (fun h=>h (s3 (by decide))),if_pos hn];exact (if_neg hn).symm
  |5,_=>
   have hn:¬∀x∈g.fils,bL g x:=fun h=>hne (if_pos h)
   rw [if_neg (fun h=>h (s0 (by decide))),if_neg (fun h=>h (s1 (by decide))),if_neg (fun h=>h (s2 (by decide))),if_neg (fun h=>h (s3 (by decide))),if_neg (fun h=>h (s4 (by decide))),if_pos hn];exact (if_neg hn).symm
 refine bW (wL · b1 b9 _) 6 (fun k F'=>F3.le F'∧∀j,j<k→ub g j=0) ⟨le_refl' _,fun j h=>by omega⟩ ?_
 rintro k F4 N hk ⟨l4,hi⟩ next
 unfold wL
 refine ⟨fun hlt=> ?_,fun hge=> ?_⟩
 ·have hlt:k<6:=by simp only at hlt;omega
  refine ⟨_,rfl,by omega,by simp only;omega,.func (.func (xz k)) #[] #[],?_,v,hg.size,ak (l4 _ _ q1),xz k,#[],#[],rfl,?_⟩
  ·rw [Int.toNat_natCast,aD,am (l4 _ _ q9)]
   match k,hlt with
   |0,_=>rfl
   |1,_=>rfl
   |2,_=>rfl
   |3,_=>rfl
   |4,_=>rfl
   |5,_=>rfl
  ·obtain ⟨h1,h2⟩:=zS (hT.le (aa l1 l4)) (hg.le (aa l1 l4)) hb hz k
   refine ⟨h1,?_⟩
   have e:(#[]:Array Value)++[Value.agg v].toArray++ #[]= #[.agg v]:=by simp
   dsimp only
   rw [e]
   refine h2.mono ?_
   rintro _ F5 ⟨rfl,l5⟩
   refine ⟨_,rfl,fun hne=>⟨by rw [hfin k hlt hi hne],aa l1 (aa l4 l5)⟩,fun hz0=> ?_⟩
   rw [aQ hlt (by omega)]
   refine next _ hlt ⟨aa l4 l5,fun j hj=> ?_⟩
   by_cases e:j=k
   ·rw [e];exact Classical.not_not.1 hz0
   ·exact hi j (by omega)
 ·have e:k=6:=by simp only at hge;omega
  subst e
  unfold De
  refine ⟨?_,aa l1 l4⟩
  rw [eZ.2 ⟨hb,nz0 (a:=54) (by decide) (hi 0 (by decide)),nz0 (a:=51) (by decide) (hi 1 (by decide)),nz0 (a:=50) (by decide) (hi 2 (by decide)),hi 3 (by decide),nz0 (a:=53) (by decide) (hi 4 (by decide)),nz0 (a:=53) (by decide) (hi 5 (by decide))⟩]
theorem zU {α:Type} {l m:List α} (h:l.length=m.length) (hi:∀(i:Nat) (x y:α),l[i]? =some x→m[i]? =some y→x=y):l=m:=by
 apply List.ext_getElem h
 intro i h1 h2
 exact hi i _ _ (List.getElem?_eq_getElem h1) (List.getElem?_eq_getElem h2)
theorem se {α:Type} [DecidableEq α] {l m:List α} (h:l.length=m.length) (hi:∀(i:Nat) (x y:α),i<l.length→l[i]? =some x→m[i]? =some y→x=y):decide (l=m)=true:=
 decide_eq_true (zU h fun i x y hx hy=>hi i x y (List.getElem?_eq_some_iff.1 hx).1 hx hy)
section
variable {α:Type} [Mem α] [DecidableEq α] {F:PH}
def Ip (n:Nat) (z:Array Value) (e:TypeId) (N1:Int→PH→Prop) (s2_1:Sl) (eq_2:Value) (s1_0:Sl) (R:VR) (v_17:Int) (F:PH):Prop:=
 ((v_17<(s1_0.len:Int)→
  ∃a20_:Addr,s1_0.base=some a20_∧0≤v_17∧v_17<(s1_0.len:Int)∧
  ∃v_21:Array Value,v_21.size=n∧F.row (Addr.add a20_ (Int.toNat v_17*n)) v_21∧
  ∀b8,F b8=none→atF (F.set b8 (.cells z e)) fun F=>
  aA F (Addr.mk b8 0 none) n v_21 fun F=>
  ∃a24_:Addr,s2_1.base=some a24_∧0≤v_17∧v_17<(s2_1.len:Int)∧
  ∃v_25:Array Value,v_25.size=n∧F.row (Addr.add a24_ (Int.toNat v_17*n)) v_25∧
  ∀b9,F b9=none→atF (F.set b9 (.cells z e)) fun F=>
  aA F (Addr.mk b9 0 none) n v_25 fun F=>
  ∃v_27:Array Value,v_27.size=n∧F.row (Addr.mk b8 0 none) v_27∧
  ∃v_28:Array Value,v_28.size=n∧F.row (Addr.mk b9 0 none) v_28∧
  ∃(k29:Nat) (fst29 cap29:Array Value),eq_2=.func (.func k29) fst29 cap29∧au prog k29=true∧ac prog k29 (fst29++([(.agg v_27),(.agg v_28)]).toArray++cap29) F fun v F=>∃v_29:Bool,v=(.bool v_29)∧
  (((!v_29)=true→
   R (.bool false) F)∧
  ((!v_29)=false→
   N1 (IntKind.i64.wrap (v_17+(1:Int))) F)))∧
 (¬(v_17<(s1_0.len:Int))→
  R (.bool true) F))
def Pa (n:Nat) (z:Array Value) (e:TypeId) (s1_0:Sl) (s2_1:Sl) (eq_2:Value) (R:VR) (F:PH):Prop:=
 (((s1_0.len:Int)≠(s2_1.len:Int)→
  R (.bool false) F)∧
 (¬((s1_0.len:Int)≠(s2_1.len:Int))→
  (∃(I1:Nat→Int→PH→Prop) (m1:Nat),I1 m1 (0:Int) F∧∀m1 v_17 F,I1 m1 v_17 F→
   Ip n z e (fun y1_0 F=>∃m',m'<m1∧I1 m' y1_0 F) s2_1 eq_2 s1_0 R v_17 F)))
theorem sg {s t:Sl} {l m:List α} {z:Array Value} {e:TypeId} (hs:RL F s l) (ht:RL F t m) (hn:0<Mem.n α) (hl:l.length≤1000000000) (hz:z.size=Mem.n α) {k:Nat} {fst cap:Array Value} (hk:au prog k=true)
  (hf:∀x∈l,∀y c d F1,F.le F1→Mem.rep F1 x c→Mem.rep F1 y d→ac prog k (fst++([Value.agg c,Value.agg d]).toArray++cap) F1 fun r F'=>r=.bool (decide (x=y))∧F1.le F'):
  Pa (Mem.n α) z e s t (.func (.func k) fst cap) (fun r F'=>r=.bool (decide (l=m))∧F.le F') F:=by
 have e1:=hs.len hn
 have e2:=ht.len hn
 refine ⟨fun h=>⟨?_,le_refl' F⟩,fun h=> ?_⟩
 ·rw [decide_eq_false (fun e=>by rw [e] at e1;omega)]
 have hlm:l.length=m.length:=by omega
 refine bW (Ip (Mem.n α) z e · t (.func (.func k) fst cap) s _) l.length (fun k F'=>F.le F'∧∀i x y,i<k→l[i]? =some x→m[i]? =some y→x=y) ⟨le_refl' F,fun i x y h=>by omega⟩ ?_
 rintro i F1 N hi ⟨hle,hall⟩ next
 unfold Ip
 refine ⟨fun hlt=> ?_,fun hge=> ?_⟩
 ·have hlt:i<l.length:=by omega
  refine ixc (hs.le hle) hn (by omega) (by omega) fun a c x hx hr hc=>⟨c,Mem.len hc,hr,?_⟩
  refine Is (Mem.st hc) (fun b8 F2 l2 q8=> ?_) hz (Mem.len hc)
  refine ixc (ht.le (aa hle l2)) hn (by omega) (by omega) fun a d y hy hr hd=>⟨d,Mem.len hd,hr,?_⟩
  refine Is (Mem.st hd) (fun b9 F3 l3 q9=> ?_) hz (Mem.len hd)
  rw [Int.toNat_natCast] at hx hy
  refine ⟨c,Mem.len hc,ak (l3 _ _ q8),d,Mem.len hd,ak q9,k,fst,cap,rfl,hk,?_⟩
  have hl3:=aa hle (aa l2 l3)
  refine (hf x (List.mem_of_getElem? hx) y c d F3 hl3 (Mem.le (aa l2 l3) hc) (Mem.le l3 hd)).mono ?_
  rintro _ F4 ⟨rfl,l4⟩
  refine ⟨_,rfl,fun hb=>⟨?_,aa hl3 l4⟩,fun hb=> ?_⟩
  ·rw [decide_eq_false (fun e=>by
    rw [e,hy] at hx
    cases hx
    simp at hb)]
  ·have hb:x=y:=by simpa using hb
   rw [aQ hlt (by omega)]
   refine next _ hlt ⟨aa hl3 l4,fun j u w hj hu hw=> ?_⟩
   by_cases e:j=i
   ·subst e
    rw [hx] at hu
    rw [hy] at hw
    cases hu
    cases hw
    exact hb
   ·exact hall j u w (by omega) hu hw
 ·have e:i=l.length:=by omega
  subst e
  exact ⟨by rw [se hlm hall],hle⟩
def Iq (n:Nat) (t:TypeId) (N1:Int→PH→Prop) (s1_0:Sl) (s2_1:Sl) (R:VR) (v_13:Int) (F:PH):Prop:=
 ((v_13<(s1_0.len:Int)→
  ∃a18_:Addr,s1_0.base=some a18_∧0≤v_13∧v_13<(s1_0.len:Int)∧
  ∃v_19:Array Value,v_19.size=n∧F.row (Addr.add a18_ (Int.toNat v_13*n)) v_19∧
  ∃a22_:Addr,s2_1.base=some a22_∧0≤v_13∧v_13<(s2_1.len:Int)∧
  ∃v_23:Array Value,v_23.size=n∧F.row (Addr.add a22_ (Int.toNat v_13*n)) v_23∧
  ∃v_24:Bool,(∀F,rdo prog (Op.equal t (.agg v_19) (.agg v_23)) F v_24)∧
  (((!v_24)=true→
   R (.bool false) F)∧
  ((!v_24)=false→
   N1 (IntKind.i64.wrap (v_13+(1:Int))) F)))∧
 (¬(v_13<(s1_0.len:Int))→
  R (.bool true) F))
def Pb (n:Nat) (t:TypeId) (s1_0:Sl) (s2_1:Sl) (R:VR) (F:PH):Prop:=
 (((s1_0.len:Int)≠(s2_1.len:Int)→
  R (.bool false) F)∧
 (¬((s1_0.len:Int)≠(s2_1.len:Int))→
  (∃(I1:Nat→Int→PH→Prop) (m1:Nat),I1 m1 (0:Int) F∧∀m1 v_13 F,I1 m1 v_13 F→
   Iq n t (fun y1_0 F=>∃m',m'<m1∧I1 m' y1_0 F) s1_0 s2_1 R v_13 F)))
theorem vA {s t:Sl} {l m:List α} {ty:TypeId} (hs:RL F s l) (ht:RL F t m) (hn:0<Mem.n α) (hl:l.length≤1000000000)
  (hf:∀(x y:α) c d F1,Mem.rep F1 x c→Mem.rep F1 y d→∀F2,rdo prog (Op.equal ty (.agg c) (.agg d)) F2 (decide (x=y))):
  Pb (Mem.n α) ty s t (fun r F'=>r=.bool (decide (l=m))∧F.le F') F:=by
 have e1:=hs.len hn
 have e2:=ht.len hn
 refine ⟨fun h=>⟨?_,le_refl' F⟩,fun h=> ?_⟩
 ·rw [decide_eq_false (fun e=>by rw [e] at e1;omega)]
 have hlm:l.length=m.length:=by omega
 refine bW (Iq (Mem.n α) ty · s t _) l.length (fun k F'=>F'=F∧∀i x y,i<k→l[i]? =some x→m[i]? =some y→x=y) ⟨rfl,fun i x y h=>by omega⟩ ?_
 rintro i F1 N hi ⟨rfl,hall⟩ next
 unfold Iq
 refine ⟨fun hlt=> ?_,fun hge=> ?_⟩
 ·have hlt:i<l.length:=by omega
  refine ixc hs hn (by omega) (by omega) fun a c x hx hr hc=>⟨c,Mem.len hc,hr,?_⟩
  refine ixc ht hn (by omega) (by omega) fun a d y hy hr hd=>⟨d,Mem.len hd,hr,_,hf x y c d _ hc hd,fun hb=>⟨?_,le_refl' _⟩,fun hb=> ?_⟩
  all_goals rw [Int.toNat_natCast] at hx hy
  ·rw [decide_eq_false (fun e=>by
    rw [e,hy] at hx
    cases hx
    simp at hb)]
  ·have hb:x=y:=by simpa using hb
   rw [aQ hlt (by omega)]
   refine next _ hlt ⟨rfl,fun j u w hj hu hw=> ?_⟩
   by_cases e:j=i
   ·subst e
    rw [hx] at hu
    rw [hy] at hw
    cases hu
    cases hw
    exact hb
   ·exact hall j u w (by omega) hu hw
 ·have e:i=l.length:=by omega
  subst e
  exact ⟨by rw [se hlm hall],le_refl' _⟩
end
section
variable {F:PH} {s t:Sl}
theorem ma {l m:List ByteArray} (hs:RL F s l) (ht:RL F t m) (hl:l.length≤1000000000):ac prog 61 #[s.v,t.v] F fun r F'=>r=.bool (decide (l=m))∧F.le F':=by
 refine PU ?_
 unfold Mu
 have e1:=hs.len (by decide)
 have e2:=ht.len (by decide)
 refine ⟨fun h=>⟨?_,le_refl' F⟩,fun h=> ?_⟩
 ·rw [decide_eq_false (fun e=>by rw [e] at e1;omega)]
 have hlm:l.length=m.length:=by omega
 refine bW (wJ · s t _) l.length (fun k F'=>F'=F∧∀i x y,i<k→l[i]? =some x→m[i]? =some y→x=y) ⟨rfl,fun i x y h=>by omega⟩ ?_
 rintro i F1 N hi ⟨rfl,hall⟩ next
 unfold wJ
 refine ⟨fun hlt=> ?_,fun hge=> ?_⟩
 ·have hlt:i<l.length:=by omega
  refine ixc hs (by decide) (by omega) (by omega) fun a c x hx hr hc=> ?_
  rw [show c= #[.string x] from hc] at hr
  refine ⟨_,aJ hr rfl,?_⟩
  refine ixc ht (by decide) (by omega) (by omega) fun a d y hy hr hd=> ?_
  rw [show d= #[.string y] from hd] at hr
  rw [Int.toNat_natCast] at hx hy
  refine ⟨_,aJ hr rfl,?_⟩
  dsimp only
  rw [gU]
  refine ⟨fun hb=>⟨?_,le_refl' _⟩,fun hb=> ?_⟩
  ·rw [decide_eq_false (fun e=>by
    rw [e,hy] at hx
    cases hx
    simp at hb)]
  ·have hb:x=y:=by simpa using hb
   rw [aQ hlt (by omega)]
   refine next _ hlt ⟨rfl,fun j u w hj hu hw=> ?_⟩
   by_cases e:j=i
   ·subst e
    rw [hx] at hu
    rw [hy] at hw
    cases hu
    cases hw
    exact hb
   ·exact hall j u w (by omega) hu hw
 ·have e:i=l.length:=by omega
  subst e
  unfold C5
  exact ⟨by rw [se hlm hall],le_refl' _⟩
theorem mb {l m:List Int} (hs:RL F s l) (ht:RL F t m) (hl:l.length≤1000000000):ac prog 71 #[s.v,t.v] F fun r F'=>r=.bool (decide (l=m))∧F.le F':=by
 refine Qe ?_
 unfold Mv
 have e1:=hs.len (by decide)
 have e2:=ht.len (by decide)
 refine ⟨fun h=>⟨?_,le_refl' F⟩,fun h=> ?_⟩
 ·rw [decide_eq_false (fun e=>by rw [e] at e1;omega)]
 have hlm:l.length=m.length:=by omega
 refine bW (wK · s t _) l.length (fun k F'=>F'=F∧∀i x y,i<k→l[i]? =some x→m[i]? =some y→x=y) ⟨rfl,fun i x y h=>by omega⟩ ?_
 rintro i F1 N hi ⟨rfl,hall⟩ next
 unfold wK
 refine ⟨fun hlt=> ?_,fun hge=> ?_⟩
 ·have hlt:i<l.length:=by omega
  refine ixc hs (by decide) (by omega) (by omega) fun a c x hx hr hc=> ?_
  rw [show c= #[vi x] from hc] at hr
  refine ⟨_,aJ hr rfl,?_⟩
  refine ixc ht (by decide) (by omega) (by omega) fun a d y hy hr hd=> ?_
  rw [show d= #[vi y] from hd] at hr
  rw [Int.toNat_natCast] at hx hy
  refine ⟨_,aJ hr rfl,fun hb=>⟨?_,le_refl' _⟩,fun hb=> ?_⟩
  ·rw [decide_eq_false (fun e=>by
    rw [e,hy] at hx
    cases hx
    exact hb rfl)]
  ·have hb:x=y:=Classical.not_not.1 hb
   rw [aQ hlt (by omega)]
   refine next _ hlt ⟨rfl,fun j u w hj hu hw=> ?_⟩
   by_cases e:j=i
   ·subst e
    rw [hx] at hu
    rw [hy] at hw
    cases hu
    cases hw
    exact hb
   ·exact hall j u w (by omega) hu hw
 ·have e:i=l.length:=by omega
  subst e
  unfold C6
  exact ⟨by rw [se hlm hall],le_refl' _⟩
theorem Pc (x y:Cn) (F:PH):rdo prog (Op.equal 101 (.agg x.arr) (.agg y.arr)) F (decide (x=y)):=by
 have h:=jS (t:=101) underlying101 (by kernel_rfl) (cs:=x.arr) (ds:=y.arr) (fun f=>if f.offset=0 then decide (x.k=y.k) else if f.offset=1 then decide (x.a=y.a) else decide (x.b=y.b)) (fun f hf=>by
  simp only [List.mem_cons,List.not_mem_nil,or_false] at hf
  rcases hf with rfl|rfl|rfl
  all_goals exact ⟨by decide,_,_,rfl,rfl,.int underlying3⟩) F
 refine cast ?_ h
 congr 1
 cases x;cases y
 rw [Bool.eq_iff_iff]
 simp [Cn.mk.injEq]
theorem Pd (x y:Nd) (F:PH):rdo prog (Op.equal 97 (.agg x.arr) (.agg y.arr)) F (decide (x=y)):=by
 have h:=jS (t:=97) underlying97 (by kernel_rfl) (cs:=x.arr) (ds:=y.arr) (fun f=>if f.offset=0 then decide (x.k=y.k) else if f.offset=1 then decide (x.lo=y.lo) else if f.offset=2 then decide (x.hi=y.hi) else if f.offset=3 then decide (x.a=y.a) else decide (x.b=y.b)) (fun f hf=>by
  simp only [List.mem_cons,List.not_mem_nil,or_false] at hf
  rcases hf with rfl|rfl|rfl|rfl|rfl
  all_goals exact ⟨by decide,_,_,rfl,rfl,.int underlying3⟩) F
 refine cast ?_ h
 congr 1
 cases x;cases y
 rw [Bool.eq_iff_iff]
 simp [Nd.mk.injEq]
theorem vD {l m:List Nd} (hs:RL F s l) (ht:RL F t m) (hl:l.length≤1000000000):ac prog 64 #[s.v,t.v] F fun r F'=>r=.bool (decide (l=m))∧F.le F':=
 PZ (vA hs ht (by decide) hl fun x y c d F1 hc hd F2=>by rw [show c=x.arr from hc,show d=y.arr from hd];exact Pd x y F2)
theorem vE {l m:List Sy} (hs:RL F s l) (ht:RL F t m) (hl:l.length≤1000000000):ac prog 67 #[s.v,t.v] F fun r F'=>r=.bool (decide (l=m))∧F.le F':=
 P7 (vA hs ht (by decide) hl fun x y c d F1 hc hd F2=>by rw [show c=x.arr from hc,show d=y.arr from hd];exact Iy x y F2)
theorem vF {l m:List Cn} (hs:RL F s l) (ht:RL F t m) (hl:l.length≤1000000000):ac prog 68 #[s.v,t.v] F fun r F'=>r=.bool (decide (l=m))∧F.le F':=
 Qb (vA hs ht (by decide) hl fun x y c d F1 hc hd F2=>by rw [show c=x.arr from hc,show d=y.arr from hd];exact Pc x y F2)
theorem uc {n n':Sl} {d e:Dia} (hn:RL F n d.1) (hn':RL F n' e.1) (hl:d.1.length≤1000000000):ac prog 29 #[.agg #[n.v,vi d.2],.agg #[n'.v,vi e.2]] F fun r F'=>r=.bool (decide (d=e))∧F.le F':=
 rk (DV.mk hn) (DV.mk hn') (by unfold Fit;omega)
theorem Ir:au prog 63=true∧au prog 66=true∧au prog 70=true∧au prog 73=true:=by
 refine ⟨?_,?_,?_,?_⟩<;>kernel_rfl
theorem ud {x y:Tk} {c d:Array Value} (hc:Mem.rep F x c) (hd:Mem.rep F y d) (h1:x.pat.length≤1000000000) (h2:x.cond.1.length≤1000000000):ac prog 63 #[.agg c,.agg d] F fun r F'=>r=.bool (decide (x=y))∧F.le F':=by
 obtain ⟨p,n,rfl,hp,hn⟩:=hc
 obtain ⟨p',n',rfl,hp',hn'⟩:=hd
 refine Qn ?_
 unfold M2
 refine fresh fun b2 F1 l1 q1 _=> ?_
 refine fresh fun b3 F2 l2 q2 _=> ?_
 replace q1:=l2 _ _ q1
 replace l1:=aa l1 l2
 have no:∀{F':PH},F2.le F'→x≠y→(Value.bool false=.bool (decide (x=y))∧F.le F'):=fun {F'} l h=>⟨by rw [decide_eq_false h],aa l1 l⟩
 have rf:=le_refl' F2
 refine ⟨_,ld q1 rfl,_,ld q2 rfl,?_⟩
 dsimp only
 rw [gU]
 refine ⟨fun k1=>⟨_,ld q1 rfl,_,ld q2 rfl,fun k2=>⟨_,ld q1 rfl,_,ld q2 rfl,?_⟩,fun k2=>no rf fun e=>k2 (by rw [e])⟩,fun k1=>no rf fun e=>by rw [e] at k1;simp at k1⟩
 dsimp only
 rw [gU]
 refine ⟨fun k3=>⟨_,ld q1 rfl,_,ld q2 rfl,?_⟩,fun k3=>no rf fun e=>by rw [e] at k3;simp at k3⟩
 refine (vD (hp.le l1) (hp'.le l1) h1).mono ?_
 rintro _ F3 ⟨rfl,l3⟩
 refine ⟨_,rfl,fun k4=>⟨_,ld (l3 _ _ q1) rfl,_,ld (l3 _ _ q2) rfl,?_⟩,fun k4=>no l3 fun e=>by rw [e] at k4;simp at k4⟩
 dsimp only
 rw [gU]
 refine ⟨fun k5=>⟨#[n.v,vi x.cond.2],rfl,ft (l3 _ _ q1) rfl,#[n'.v,vi y.cond.2],rfl,ft (l3 _ _ q2) rfl,?_⟩,fun k5=>no l3 fun e=>by rw [e] at k5;simp at k5⟩
 refine (uc (hn.le (aa l1 l3)) (hn'.le (aa l1 l3)) h2).mono ?_
 rintro _ F4 ⟨rfl,l4⟩
 refine ⟨_,rfl,?_,aa l1 (aa l3 l4)⟩
 congr 1
 rw [Bool.eq_iff_iff,decide_eq_true_eq,decide_eq_true_eq]
 have k1:=of_decide_eq_true k1
 have k3:=of_decide_eq_true k3
 have k4:=of_decide_eq_true k4
 have k5:=of_decide_eq_true k5
 constructor
 ·intro h
  cases x;cases y
  simp only at*
  simp [k1,k2,k3,k4,k5,h]
 ·intro h;rw [h]
theorem ue {x y:Pr} {c d:Array Value} (hc:Mem.rep F x c) (hd:Mem.rep F y d) (h1:x.right.length≤1000000000) (h2:x.cond.1.length≤1000000000) (h3:x.lay.length≤1000000000):ac prog 66 #[.agg c,.agg d] F fun r F'=>r=.bool (decide (x=y))∧F.le F':=by
 obtain ⟨p,n,a,rfl,hp,hn,ha⟩:=hc
 obtain ⟨p',n',a',rfl,hp',hn',ha'⟩:=hd
 refine Qo ?_
 unfold M3
 refine fresh fun b2 F1 l1 q1 _=> ?_
 refine fresh fun b3 F2 l2 q2 _=> ?_
 replace q1:=l2 _ _ q1
 replace l1:=aa l1 l2
 have no:∀{F':PH},F2.le F'→x≠y→(Value.bool false=.bool (decide (x=y))∧F.le F'):=fun {F'} l h=>⟨by rw [decide_eq_false h],aa l1 l⟩
 have rf:=le_refl' F2
 refine ⟨_,ld q1 rfl,_,ld q2 rfl,?_⟩
 dsimp only
 rw [gU]
 refine ⟨fun k1=>⟨_,ld q1 rfl,_,ld q2 rfl,fun k2=>⟨_,ld q1 rfl,_,ld q2 rfl,?_⟩,fun k2=>no rf fun e=>k2 (by rw [e])⟩,fun k1=>no rf fun e=>by rw [e] at k1;simp at k1⟩
 refine (vE (hp.le l1) (hp'.le l1) h1).mono ?_
 rintro _ F3 ⟨rfl,l3⟩
 refine ⟨_,rfl,fun k3=>⟨#[n.v,vi x.cond.2],rfl,ft (l3 _ _ q1) rfl,#[n'.v,vi y.cond.2],rfl,ft (l3 _ _ q2) rfl,?_⟩,fun k3=>no l3 fun e=>by rw [e] at k3;simp at k3⟩
 refine (uc (hn.le (aa l1 l3)) (hn'.le (aa l1 l3)) h2).mono ?_
 rintro _ F4 ⟨rfl,l4⟩
 replace l4:=aa l3 l4
 refine ⟨_,rfl,fun k4=>⟨_,ld (l4 _ _ q1) rfl,_,ld (l4 _ _ q2) rfl,fun k5=>⟨_,ld (l4 _ _ q1) rfl,_,ld (l4 _ _ q2) rfl,fun k6=>⟨_,ld (l4 _ _ q1) rfl,_,ld (l4 _ _ q2) rfl,?_⟩,fun k6=>no l4 fun e=>k6 (by rw [e])⟩,fun k5=>no l4 fun e=>by rw [e] at k5;simp at k5⟩,fun k4=>no l4 fun e=>by rw [e] at k4;simp at k4⟩
 refine (vF (ha.le (aa l1 l4)) (ha'.le (aa l1 l4)) h3).mono ?_
 rintro _ F5 ⟨rfl,l5⟩
 replace l5:=aa l4 l5
 refine ⟨_,rfl,fun k7=>⟨x.sco.arr,rfl,ft (l5 _ _ q1) rfl,y.sco.arr,rfl,ft (l5 _ _ q2) rfl,_,fun F=>Bq x.sco y.sco F,?_,aa l1 l5⟩,fun k7=>no l5 fun e=>by rw [e] at k7;simp at k7⟩
 congr 1
 rw [Bool.eq_iff_iff,decide_eq_true_eq,decide_eq_true_eq]
 have k1:=of_decide_eq_true k1
 have k3:=of_decide_eq_true k3
 have k4:=of_decide_eq_true k4
 have k5:=beq_iff_eq.1 k5
 have k7:=of_decide_eq_true k7
 constructor
 ·intro h
  cases x;cases y
  simp only at*
  simp [k1,k2,k3,k4,k5,k6,k7,h]
 ·intro h;rw [h]
theorem uf {x y:Lv} {c d:Array Value} (hc:Mem.rep F x c) (hd:Mem.rep F y d) (h1:x.ps.length≤1000000000) (h2:x.cond.1.length≤1000000000):ac prog 70 #[.agg c,.agg d] F fun r F'=>r=.bool (decide (x=y))∧F.le F':=by
 obtain ⟨p,n,rfl,hp,hn⟩:=hc
 obtain ⟨p',n',rfl,hp',hn'⟩:=hd
 refine Qp ?_
 unfold M4
 refine fresh fun b2 F1 l1 q1 _=> ?_
 refine fresh fun b3 F2 l2 q2 _=> ?_
 replace q1:=l2 _ _ q1
 replace l1:=aa l1 l2
 have no:∀{F':PH},F2.le F'→x≠y→(Value.bool false=.bool (decide (x=y))∧F.le F'):=fun {F'} l h=>⟨by rw [decide_eq_false h],aa l1 l⟩
 refine ⟨_,ld q1 rfl,_,ld q2 rfl,?_⟩
 refine (mb (hp.le l1) (hp'.le l1) h1).mono ?_
 rintro _ F3 ⟨rfl,l3⟩
 refine ⟨_,rfl,fun k1=>⟨_,ld (l3 _ _ q1) rfl,_,ld (l3 _ _ q2) rfl,fun k2=>⟨#[n.v,vi x.cond.2],rfl,ft (l3 _ _ q1) rfl,#[n'.v,vi y.cond.2],rfl,ft (l3 _ _ q2) rfl,?_⟩,fun k2=>no l3 fun e=>k2 (by rw [e])⟩,fun k1=>no l3 fun e=>by rw [e] at k1;simp at k1⟩
 refine (uc (hn.le (aa l1 l3)) (hn'.le (aa l1 l3)) h2).mono ?_
 rintro _ F4 ⟨rfl,l4⟩
 refine ⟨_,rfl,?_,aa l1 (aa l3 l4)⟩
 congr 1
 rw [Bool.eq_iff_iff,decide_eq_true_eq,decide_eq_true_eq]
 have k1:=of_decide_eq_true k1
 constructor
 ·intro h
  cases x;cases y
  simp only at*
  simp [k1,k2,h]
 ·intro h;rw [h]
theorem ug {x y:Fi} {c d:Array Value} (hc:Mem.rep F x c) (hd:Mem.rep F y d) (h1:x.toks.length≤1000000000) (h2:x.cond.1.length≤1000000000):ac prog 73 #[.agg c,.agg d] F fun r F'=>r=.bool (decide (x=y))∧F.le F':=by
 obtain ⟨p,n,rfl,hp,hn⟩:=hc
 obtain ⟨p',n',rfl,hp',hn'⟩:=hd
 refine Qq ?_
 unfold M5
 refine fresh fun b2 F1 l1 q1 _=> ?_
 refine fresh fun b3 F2 l2 q2 _=> ?_
 replace q1:=l2 _ _ q1
 replace l1:=aa l1 l2
 have no:∀{F':PH},F2.le F'→x≠y→(Value.bool false=.bool (decide (x=y))∧F.le F'):=fun {F'} l h=>⟨by rw [decide_eq_false h],aa l1 l⟩
 have rf:=le_refl' F2
 refine ⟨_,ld q1 rfl,_,ld q2 rfl,fun k1=>⟨_,ld q1 rfl,_,ld q2 rfl,fun k2=>⟨_,ld q1 rfl,_,ld q2 rfl,fun k3=>⟨_,ld q1 rfl,_,ld q2 rfl,fun k4=>⟨_,ld q1 rfl,_,ld q2 rfl,fun k5=>⟨_,ld q1 rfl,_,ld q2 rfl,fun k6=>⟨_,ld q1 rfl,_,ld q2 rfl,?_⟩,
  fun k=>no rf fun e=>k (by rw [e])⟩,fun k=>no rf fun e=>k (by rw [e])⟩,fun k=>no rf fun e=>k (by rw [e])⟩,fun k=>no rf fun e=>k (by rw [e])⟩,fun k=>no rf fun e=>k (by rw [e])⟩,fun k=>no rf fun e=>k (by rw [e])⟩
 refine (mb (hp.le l1) (hp'.le l1) h1).mono ?_
 rintro _ F3 ⟨rfl,l3⟩
 refine ⟨_,rfl,fun k7=>⟨#[n.v,vi x.cond.2],rfl,ft (l3 _ _ q1) rfl,#[n'.v,vi y.cond.2],rfl,ft (l3 _ _ q2) rfl,?_⟩,fun k1=>no l3 fun e=>by rw [e] at k1;simp at k1⟩
 refine (uc (hn.le (aa l1 l3)) (hn'.le (aa l1 l3)) h2).mono ?_
 rintro _ F4 ⟨rfl,l4⟩
 refine ⟨_,rfl,?_,aa l1 (aa l3 l4)⟩
 congr 1
 rw [Bool.eq_iff_iff,decide_eq_true_eq,decide_eq_true_eq]
 have k7:=of_decide_eq_true k7
 constructor
 ·intro h
  cases x;cases y
  simp only at*
  simp [k1,k2,k3,k4,k5,k6,k7,h]
 ·intro h;rw [h]
end
structure Sm (g:Gr):Prop where
 c:g.conds.length≤1000000000
 n:g.fam.1.length≤1000000000
 t:g.toks.length≤1000000000
 s:g.nons.length≤1000000000
 p:g.prods.length≤1000000000
 l:g.lvs.length≤1000000000
 f:g.fils.length≤1000000000
 ti:∀x∈g.toks,x.pat.length≤1000000000∧x.cond.1.length≤1000000000
 pi:∀x∈g.prods,x.right.length≤1000000000∧x.cond.1.length≤1000000000∧x.lay.length≤1000000000
 li:∀x∈g.lvs,x.ps.length≤1000000000∧x.cond.1.length≤1000000000
 fi:∀x∈g.fils,x.toks.length≤1000000000∧x.cond.1.length≤1000000000
theorem vG {F:PH} {v w:Array Value} {g h:Gr} (hg:GV F v g) (hh:GV F w h) (hz:Sm g):ac prog 19 #[.agg v,.agg w] F fun r F'=>r=.bool (decide (g=h))∧F.le F':=by
 obtain ⟨c,n,t,s,p,l,f,rfl,hs⟩:=hg
 obtain ⟨c',n',t',s',p',l',f',rfl,hs'⟩:=hh
 obtain ⟨cb1,cb2,cb3,cb4⟩:=Ir
 refine Qk ?_
 unfold MY
 refine fresh fun b2 F1 l1 q1 _=> ?_
 refine fresh fun b3 F2 l2 q2 _=> ?_
 replace q1:=l2 _ _ q1
 replace l1:=aa l1 l2
 replace hs:=hs.le l1
 replace hs':=hs'.le l1
 have no:∀{F':PH},F2.le F'→g≠h→(Value.bool false=.bool (decide (g=h))∧F.le F'):=fun {F'} l h=>⟨by rw [decide_eq_false h],aa l1 l⟩
 have jf:∀{F':PH},F2.le F'→g≠h→jx b2 b3 false (fun r F'=>r=.bool (decide (g=h))∧F.le F') F':=fun {F'} l h=>by
  unfold jx
  exact ⟨fun h=>(by cases h),fun _=>no l h⟩
 refine ⟨_,ld q1 rfl,_,ld q2 rfl,?_⟩
 refine (ma hs.c hs'.c hz.c).mono ?_
 rintro _ F3 ⟨rfl,l3⟩
 refine ⟨_,rfl,fun k1=>⟨#[n.v,vi g.fam.2],rfl,ft (l3 _ _ q1) rfl,#[n'.v,vi h.fam.2],rfl,ft (l3 _ _ q2) rfl,?_⟩,fun k1=>jf l3 fun e=>by rw [e] at k1;simp at k1⟩
 refine (uc (hs.n.le l3) (hs'.n.le l3) hz.n).mono ?_
 rintro _ F4 ⟨rfl,l4⟩
 replace l4:=aa l3 l4
 refine ⟨_,rfl,fun k2=>⟨_,ld (l4 _ _ q1) rfl,_,ld (l4 _ _ q2) rfl,?_⟩,fun k2=>jf l4 fun e=>by rw [e] at k2;simp at k2⟩
 refine (ma (hs.s.le l4) (hs'.s.le l4) hz.s).mono ?_
 rintro _ F5 ⟨rfl,l5⟩
 replace l5:=aa l4 l5
 refine ⟨_,rfl,fun k3=>⟨_,ld (l5 _ _ q1) rfl,_,ld (l5 _ _ q2) rfl,?_⟩,fun k3=>jf l5 fun e=>by rw [e] at k3;simp at k3⟩
 by_cases k4:g.start=h.start
 case neg=>
  dsimp only
  rw [decide_eq_false k4]
  exact jf l5 fun e=>k4 (by rw [e])
 dsimp only
 rw [decide_eq_true k4]
 unfold jx
 refine ⟨fun _=>⟨_,ld (l5 _ _ q1) rfl,_,ld (l5 _ _ q2) rfl,?_⟩,fun h=>(by cases h)⟩
 refine (show ac prog 62 #[t.v,t'.v,.func (.func 63) #[] #[]] F5 (fun r F'=>r=.bool (decide (g.toks=h.toks))∧F5.le F') from
  PX (sg (hs.t.le l5) (hs'.t.le l5) (by decide) hz.t rfl cb1 fun x hx y c d F1 _ hc hd=>ud hc hd (hz.ti x hx).1 (hz.ti x hx).2)).mono ?_
 rintro _ F6 ⟨rfl,l6⟩
 replace l6:=aa l5 l6
 refine ⟨_,rfl,fun k5=>⟨_,ld (l6 _ _ q1) rfl,_,ld (l6 _ _ q2) rfl,?_⟩,fun k5=>no l6 fun e=>by rw [e] at k5;simp at k5⟩
 refine (show ac prog 65 #[p.v,p'.v,.func (.func 66) #[] #[]] F6 (fun r F'=>r=.bool (decide (g.prods=h.prods))∧F6.le F') from
  P5 (sg (hs.p.le l6) (hs'.p.le l6) (by decide) hz.p rfl cb2 fun x hx y c d F1 _ hc hd=>ue hc hd (hz.pi x hx).1 (hz.pi x hx).2.1 (hz.pi x hx).2.2)).mono ?_
 rintro _ F7 ⟨rfl,l7⟩
 replace l7:=aa l6 l7
 refine ⟨_,rfl,fun k6=>⟨_,ld (l7 _ _ q1) rfl,_,ld (l7 _ _ q2) rfl,?_⟩,fun k6=>no l7 fun e=>by rw [e] at k6;simp at k6⟩
 refine (show ac prog 69 #[l.v,l'.v,.func (.func 70) #[] #[]] F7 (fun r F'=>r=.bool (decide (g.lvs=h.lvs))∧F7.le F') from
  Qd (sg (hs.l.le l7) (hs'.l.le l7) (by decide) hz.l rfl cb3 fun x hx y c d F1 _ hc hd=>uf hc hd (hz.li x hx).1 (hz.li x hx).2)).mono ?_
 rintro _ F8 ⟨rfl,l8⟩
 replace l8:=aa l7 l8
 refine ⟨_,rfl,fun k7=>⟨_,ld (l8 _ _ q1) rfl,_,ld (l8 _ _ q2) rfl,?_⟩,fun k7=>no l8 fun e=>by rw [e] at k7;simp at k7⟩
 refine (show ac prog 72 #[f.v,f'.v,.func (.func 73) #[] #[]] F8 (fun r F'=>r=.bool (decide (g.fils=h.fils))∧F8.le F') from
  Qg (sg (hs.f.le l8) (hs'.f.le l8) (by decide) hz.f rfl cb4 fun x hx y c d F1 _ hc hd=>ug hc hd (hz.fi x hx).1 (hz.fi x hx).2)).mono ?_
 rintro _ F9 ⟨rfl,l9⟩
 refine ⟨_,rfl,?_,aa l1 (aa l8 l9)⟩
 congr 1
 rw [Bool.eq_iff_iff,decide_eq_true_eq,decide_eq_true_eq]
 have k1:=of_decide_eq_true k1
 have k2:=of_decide_eq_true k2
 have k3:=of_decide_eq_true k3
 have k5:=of_decide_eq_true k5
 have k6:=of_decide_eq_true k6
 have k7:=of_decide_eq_true k7
 constructor
 ·intro hf
  cases g;cases h
  simp only at*
  simp [k1,k2,k3,k4,k5,k6,k7,hf]
 ·intro h;rw [h]
end Go.Proofs.YtenpmjhnhepfdaaGreatDoor
