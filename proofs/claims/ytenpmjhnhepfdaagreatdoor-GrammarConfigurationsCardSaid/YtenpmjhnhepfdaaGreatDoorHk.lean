/-
  Slices that grow, as parts; copies of lists. Printed in part by a program (mkHk.py).
-/
import Derived.Test.YtenpmjhnhepfdaaGreatDoorHi
namespace Go.Proofs.YtenpmjhnhepfdaaGreatDoor
open Go Go.Proofs.Tryz
set_option maxRecDepth 10000
theorem yZ {α:Type} {l m:List α} (h:l.length=m.length) (hi:∀(i:Nat) (x y:α),l[i]? =some x→m[i]? =some y→x=y):l=m:=by
 apply List.ext_getElem h
 intro i h1 h2
 exact hi i _ _ (List.getElem?_eq_getElem h1) (List.getElem?_eq_getElem h2)
theorem rt {α:Type} [DecidableEq α] {l m:List α} (h:l.length=m.length) (hi:∀(i:Nat) (x y:α),i<l.length→l[i]? =some x→m[i]? =some y→x=y):decide (l=m)=true:=
 decide_eq_true (yZ h fun i x y hx hy=>hi i x y (List.getElem?_eq_some_iff.1 hx).1 hx hy)
section
variable {α:Type} [Mem α] [DecidableEq α] {F:PH}
def Hq (n:Nat) (z:Array Value) (e:TypeId) (N1:Int→PH→Prop) (s2_1:Sl) (eq_2:Value) (s1_0:Sl) (R:VR) (v_17:Int) (F:PH):Prop:=
 ((v_17<(s1_0.len:Int)→
  ∃a20_:Addr,s1_0.base=some a20_∧0≤v_17∧v_17<(s1_0.len:Int)∧
  ∃v_21:Array Value,v_21.size=n∧F.row (Addr.add a20_ (Int.toNat v_17*n)) v_21∧
  ∀b8,F b8=none→atF (F.set b8 (.cells z e)) fun F=>
  av F (Addr.mk b8 0 none) n v_21 fun F=>
  ∃a24_:Addr,s2_1.base=some a24_∧0≤v_17∧v_17<(s2_1.len:Int)∧
  ∃v_25:Array Value,v_25.size=n∧F.row (Addr.add a24_ (Int.toNat v_17*n)) v_25∧
  ∀b9,F b9=none→atF (F.set b9 (.cells z e)) fun F=>
  av F (Addr.mk b9 0 none) n v_25 fun F=>
  ∃v_27:Array Value,v_27.size=n∧F.row (Addr.mk b8 0 none) v_27∧
  ∃v_28:Array Value,v_28.size=n∧F.row (Addr.mk b9 0 none) v_28∧
  ∃(k29:Nat) (fst29 cap29:Array Value),eq_2=.func (.func k29) fst29 cap29∧aB prog k29=true∧ac prog k29 (fst29++([(.agg v_27),(.agg v_28)]).toArray++cap29) F fun v F=>∃v_29:Bool,v=(.bool v_29)∧
  (((!v_29)=true→
   R (.bool false) F)∧
  ((!v_29)=false→
   N1 (IntKind.i64.wrap (v_17+(1:Int))) F)))∧
 (¬(v_17<(s1_0.len:Int))→
  R (.bool true) F))
def NW (n:Nat) (z:Array Value) (e:TypeId) (s1_0:Sl) (s2_1:Sl) (eq_2:Value) (R:VR) (F:PH):Prop:=
 (((s1_0.len:Int)≠(s2_1.len:Int)→
  R (.bool false) F)∧
 (¬((s1_0.len:Int)≠(s2_1.len:Int))→
  (∃(I1:Nat→Int→PH→Prop) (m1:Nat),I1 m1 (0:Int) F∧∀m1 v_17 F,I1 m1 v_17 F→
   Hq n z e (fun y1_0 F=>∃m',m'<m1∧I1 m' y1_0 F) s2_1 eq_2 s1_0 R v_17 F)))
theorem ru {s t:Sl} {l m:List α} {z:Array Value} {e:TypeId} (hs:RL F s l) (ht:RL F t m) (hn:0<Mem.n α) (hl:l.length≤1000000000) (hz:z.size=Mem.n α) {k:Nat} {fst cap:Array Value} (hk:aB prog k=true)
  (hf:∀x∈l,∀y c d F1,F.le F1→Mem.rep F1 x c→Mem.rep F1 y d→ac prog k (fst++([Value.agg c,Value.agg d]).toArray++cap) F1 fun r F'=>r=.bool (decide (x=y))∧F1.le F'):
  NW (Mem.n α) z e s t (.func (.func k) fst cap) (fun r F'=>r=.bool (decide (l=m))∧F.le F') F:=by
 have e1:=hs.len hn
 have e2:=ht.len hn
 refine ⟨fun h=>⟨?_,le_refl' F⟩,fun h=> ?_⟩
 ·rw [decide_eq_false (fun e=>by rw [e] at e1;omega)]
 have hlm:l.length=m.length:=by omega
 refine bH (Hq (Mem.n α) z e · t (.func (.func k) fst cap) s _) l.length (fun k F'=>F.le F'∧∀i x y,i<k→l[i]? =some x→m[i]? =some y→x=y) ⟨le_refl' F,fun i x y h=>by omega⟩ ?_
 rintro i F1 N hi ⟨hle,hall⟩ next
 unfold Hq
 refine ⟨fun hlt=> ?_,fun hge=> ?_⟩
 ·have hlt:i<l.length:=by omega
  refine ixc (hs.le hle) hn (by omega) (by omega) fun a c x hx hr hc=>⟨c,Mem.len hc,hr,?_⟩
  refine uX (Mem.st hc) (fun b8 F2 l2 q8=> ?_) hz (Mem.len hc)
  refine ixc (ht.le (aa hle l2)) hn (by omega) (by omega) fun a d y hy hr hd=>⟨d,Mem.len hd,hr,?_⟩
  refine uX (Mem.st hd) (fun b9 F3 l3 q9=> ?_) hz (Mem.len hd)
  rw [Int.toNat_natCast] at hx hy
  refine ⟨c,Mem.len hc,ai (l3 _ _ q8),d,Mem.len hd,ai q9,k,fst,cap,rfl,hk,?_⟩
  have hl3:=aa hle (aa l2 l3)
  refine (hf x (List.mem_of_getElem? hx) y c d F3 hl3 (Mem.le (aa l2 l3) hc) (Mem.le l3 hd)).mono ?_
  rintro _ F4 ⟨rfl,l4⟩
  refine ⟨_,rfl,fun hb=>⟨?_,aa hl3 l4⟩,fun hb=> ?_⟩
  ·rw [decide_eq_false (fun e=>by
    rw [e,hy] at hx
    cases hx
    simp at hb)]
  ·have hb:x=y:=by simpa using hb
   rw [aO hlt (by omega)]
   refine next _ hlt ⟨aa hl3 l4,fun j u w hj hu hw=> ?_⟩
   by_cases e:j=i
   ·subst e
    rw [hx] at hu
    rw [hy] at hw
    cases hu
    cases hw
    exact hb
   ·exact hall j u w (by omega) hu hw
 ·have e:i=l.length:=by omega
  subst e
  exact ⟨by rw [rt hlm hall],hle⟩
def Hr (n:Nat) (t:TypeId) (N1:Int→PH→Prop) (s1_0:Sl) (s2_1:Sl) (R:VR) (v_13:Int) (F:PH):Prop:=
 ((v_13<(s1_0.len:Int)→
  ∃a18_:Addr,s1_0.base=some a18_∧0≤v_13∧v_13<(s1_0.len:Int)∧
  ∃v_19:Array Value,v_19.size=n∧F.row (Addr.add a18_ (Int.toNat v_13*n)) v_19∧
  ∃a22_:Addr,s2_1.base=some a22_∧0≤v_13∧v_13<(s2_1.len:Int)∧
  ∃v_23:Array Value,v_23.size=n∧F.row (Addr.add a22_ (Int.toNat v_13*n)) v_23∧
  ∃v_24:Bool,(∀F,rdo prog (Op.equal t (.agg v_19) (.agg v_23)) F v_24)∧
  (((!v_24)=true→
   R (.bool false) F)∧
  ((!v_24)=false→
   N1 (IntKind.i64.wrap (v_13+(1:Int))) F)))∧
 (¬(v_13<(s1_0.len:Int))→
  R (.bool true) F))
def NX (n:Nat) (t:TypeId) (s1_0:Sl) (s2_1:Sl) (R:VR) (F:PH):Prop:=
 (((s1_0.len:Int)≠(s2_1.len:Int)→
  R (.bool false) F)∧
 (¬((s1_0.len:Int)≠(s2_1.len:Int))→
  (∃(I1:Nat→Int→PH→Prop) (m1:Nat),I1 m1 (0:Int) F∧∀m1 v_13 F,I1 m1 v_13 F→
   Hr n t (fun y1_0 F=>∃m',m'<m1∧I1 m' y1_0 F) s1_0 s2_1 R v_13 F)))
theorem uQ {s t:Sl} {l m:List α} {ty:TypeId} (hs:RL F s l) (ht:RL F t m) (hn:0<Mem.n α) (hl:l.length≤1000000000)
  (hf:∀(x y:α) c d F1,Mem.rep F1 x c→Mem.rep F1 y d→∀F2,rdo prog (Op.equal ty (.agg c) (.agg d)) F2 (decide (x=y))):
  NX (Mem.n α) ty s t (fun r F'=>r=.bool (decide (l=m))∧F.le F') F:=by
 have e1:=hs.len hn
 have e2:=ht.len hn
 refine ⟨fun h=>⟨?_,le_refl' F⟩,fun h=> ?_⟩
 ·rw [decide_eq_false (fun e=>by rw [e] at e1;omega)]
 have hlm:l.length=m.length:=by omega
 refine bH (Hr (Mem.n α) ty · s t _) l.length (fun k F'=>F'=F∧∀i x y,i<k→l[i]? =some x→m[i]? =some y→x=y) ⟨rfl,fun i x y h=>by omega⟩ ?_
 rintro i F1 N hi ⟨rfl,hall⟩ next
 unfold Hr
 refine ⟨fun hlt=> ?_,fun hge=> ?_⟩
 ·have hlt:i<l.length:=by omega
  refine ixc hs hn (by omega) (by omega) fun a c x hx hr hc=>⟨c,Mem.len hc,hr,?_⟩
  refine ixc ht hn (by omega) (by omega) fun a d y hy hr hd=>⟨d,Mem.len hd,hr,_,hf x y c d _ hc hd,fun hb=>⟨?_,le_refl' _⟩,fun hb=> ?_⟩
  all_goals rw [Int.toNat_natCast] at hx hy
  ·rw [decide_eq_false (fun e=>by
    rw [e,hy] at hx
    cases hx
    simp at hb)]
  ·have hb:x=y:=by simpa using hb
   rw [aO hlt (by omega)]
   refine next _ hlt ⟨rfl,fun j u w hj hu hw=> ?_⟩
   by_cases e:j=i
   ·subst e
    rw [hx] at hu
    rw [hy] at hw
    cases hu
    cases hw
    exact hb
   ·exact hall j u w (by omega) hu hw
 ·have e:i=l.length:=by omega
  subst e
  exact ⟨by rw [rt hlm hall],le_refl' _⟩
end
section
variable {F:PH} {s t:Sl}
theorem kX {l m:List ByteArray} (hs:RL F s l) (ht:RL F t m) (hl:l.length≤1000000000):ac prog 61 #[s.v,t.v] F fun r F'=>r=.bool (decide (l=m))∧F.le F':=by
 refine Oi ?_
 unfold Kc
 have e1:=hs.len (by decide)
 have e2:=ht.len (by decide)
 refine ⟨fun h=>⟨?_,le_refl' F⟩,fun h=> ?_⟩
 ·rw [decide_eq_false (fun e=>by rw [e] at e1;omega)]
 have hlm:l.length=m.length:=by omega
 refine bH (vr · s t _) l.length (fun k F'=>F'=F∧∀i x y,i<k→l[i]? =some x→m[i]? =some y→x=y) ⟨rfl,fun i x y h=>by omega⟩ ?_
 rintro i F1 N hi ⟨rfl,hall⟩ next
 unfold vr
 refine ⟨fun hlt=> ?_,fun hge=> ?_⟩
 ·have hlt:i<l.length:=by omega
  refine ixc hs (by decide) (by omega) (by omega) fun a c x hx hr hc=> ?_
  rw [show c= #[.string x] from hc] at hr
  refine ⟨_,aI hr rfl,?_⟩
  refine ixc ht (by decide) (by omega) (by omega) fun a d y hy hr hd=> ?_
  rw [show d= #[.string y] from hd] at hr
  rw [Int.toNat_natCast] at hx hy
  refine ⟨_,aI hr rfl,?_⟩
  dsimp only
  rw [gK]
  refine ⟨fun hb=>⟨?_,le_refl' _⟩,fun hb=> ?_⟩
  ·rw [decide_eq_false (fun e=>by
    rw [e,hy] at hx
    cases hx
    simp at hb)]
  ·have hb:x=y:=by simpa using hb
   rw [aO hlt (by omega)]
   refine next _ hlt ⟨rfl,fun j u w hj hu hw=> ?_⟩
   by_cases e:j=i
   ·subst e
    rw [hx] at hu
    rw [hy] at hw
    cases hu
    cases hw
    exact hb
   ·exact hall j u w (by omega) hu hw
 ·have e:i=l.length:=by omega
  subst e
  unfold Bq
  exact ⟨by rw [rt hlm hall],le_refl' _⟩
theorem kY {l m:List Int} (hs:RL F s l) (ht:RL F t m) (hl:l.length≤1000000000):ac prog 71 #[s.v,t.v] F fun r F'=>r=.bool (decide (l=m))∧F.le F':=by
 refine Oy ?_
 unfold Ke
 have e1:=hs.len (by decide)
 have e2:=ht.len (by decide)
 refine ⟨fun h=>⟨?_,le_refl' F⟩,fun h=> ?_⟩
 ·rw [decide_eq_false (fun e=>by rw [e] at e1;omega)]
 have hlm:l.length=m.length:=by omega
 refine bH (vu · s t _) l.length (fun k F'=>F'=F∧∀i x y,i<k→l[i]? =some x→m[i]? =some y→x=y) ⟨rfl,fun i x y h=>by omega⟩ ?_
 rintro i F1 N hi ⟨rfl,hall⟩ next
 unfold vu
 refine ⟨fun hlt=> ?_,fun hge=> ?_⟩
 ·have hlt:i<l.length:=by omega
  refine ixc hs (by decide) (by omega) (by omega) fun a c x hx hr hc=> ?_
  rw [show c= #[vi x] from hc] at hr
  refine ⟨_,aI hr rfl,?_⟩
  refine ixc ht (by decide) (by omega) (by omega) fun a d y hy hr hd=> ?_
  rw [show d= #[vi y] from hd] at hr
  rw [Int.toNat_natCast] at hx hy
  refine ⟨_,aI hr rfl,fun hb=>⟨?_,le_refl' _⟩,fun hb=> ?_⟩
  ·rw [decide_eq_false (fun e=>by
    rw [e,hy] at hx
    cases hx
    exact hb rfl)]
  ·have hb:x=y:=Classical.not_not.1 hb
   rw [aO hlt (by omega)]
   refine next _ hlt ⟨rfl,fun j u w hj hu hw=> ?_⟩
   by_cases e:j=i
   ·subst e
    rw [hx] at hu
    rw [hy] at hw
    cases hu
    cases hw
    exact hb
   ·exact hall j u w (by omega) hu hw
 ·have e:i=l.length:=by omega
  subst e
  unfold Bt
  exact ⟨by rw [rt hlm hall],le_refl' _⟩
theorem NY (x y:Cn) (F:PH):rdo prog (Op.equal 101 (.agg x.arr) (.agg y.arr)) F (decide (x=y)):=by
 have h:=jy (t:=101) underlying101 (by kernel_rfl) (cs:=x.arr) (ds:=y.arr) (fun f=>if f.offset=0 then decide (x.k=y.k) else if f.offset=1 then decide (x.a=y.a) else decide (x.b=y.b)) (fun f hf=>by
  simp only [List.mem_cons,List.not_mem_nil,or_false] at hf
  rcases hf with rfl|rfl|rfl
  all_goals exact ⟨by decide,_,_,rfl,rfl,.int underlying3⟩) F
 refine cast ?_ h
 congr 1
 cases x;cases y
 rw [Bool.eq_iff_iff]
 simp [Cn.mk.injEq]
theorem NZ (x y:Nd) (F:PH):rdo prog (Op.equal 97 (.agg x.arr) (.agg y.arr)) F (decide (x=y)):=by
 have h:=jy (t:=97) underlying97 (by kernel_rfl) (cs:=x.arr) (ds:=y.arr) (fun f=>if f.offset=0 then decide (x.k=y.k) else if f.offset=1 then decide (x.lo=y.lo) else if f.offset=2 then decide (x.hi=y.hi) else if f.offset=3 then decide (x.a=y.a) else decide (x.b=y.b)) (fun f hf=>by
  simp only [List.mem_cons,List.not_mem_nil,or_false] at hf
  rcases hf with rfl|rfl|rfl|rfl|rfl
  all_goals exact ⟨by decide,_,_,rfl,rfl,.int underlying3⟩) F
 refine cast ?_ h
 congr 1
 cases x;cases y
 rw [Bool.eq_iff_iff]
 simp [Nd.mk.injEq]
theorem uR {l m:List Nd} (hs:RL F s l) (ht:RL F t m) (hl:l.length≤1000000000):ac prog 64 #[s.v,t.v] F fun r F'=>r=.bool (decide (l=m))∧F.le F':=
 Om (uQ hs ht (by decide) hl fun x y c d F1 hc hd F2=>by rw [show c=x.arr from hc,show d=y.arr from hd];exact NZ x y F2)
theorem uS {l m:List Sy} (hs:RL F s l) (ht:RL F t m) (hl:l.length≤1000000000):ac prog 67 #[s.v,t.v] F fun r F'=>r=.bool (decide (l=m))∧F.le F':=
 Ot (uQ hs ht (by decide) hl fun x y c d F1 hc hd F2=>by rw [show c=x.arr from hc,show d=y.arr from hd];exact Hw x y F2)
theorem uT {l m:List Cn} (hs:RL F s l) (ht:RL F t m) (hl:l.length≤1000000000):ac prog 68 #[s.v,t.v] F fun r F'=>r=.bool (decide (l=m))∧F.le F':=
 Ov (uQ hs ht (by decide) hl fun x y c d F1 hc hd F2=>by rw [show c=x.arr from hc,show d=y.arr from hd];exact NY x y F2)
theorem tG {n n':Sl} {d e:Dia} (hn:RL F n d.1) (hn':RL F n' e.1) (hl:d.1.length≤1000000000):ac prog 29 #[.agg #[n.v,vi d.2],.agg #[n'.v,vi e.2]] F fun r F'=>r=.bool (decide (d=e))∧F.le F':=
 qN (DV.mk hn) (DV.mk hn') (by unfold Fit;omega)
theorem Ht:aB prog 63=true∧aB prog 66=true∧aB prog 70=true∧aB prog 73=true:=by
 refine ⟨?_,?_,?_,?_⟩<;>kernel_rfl
theorem tH {x y:Tk} {c d:Array Value} (hc:Mem.rep F x c) (hd:Mem.rep F y d) (h1:x.pat.length≤1000000000) (h2:x.cond.1.length≤1000000000):ac prog 63 #[.agg c,.agg d] F fun r F'=>r=.bool (decide (x=y))∧F.le F':=by
 obtain ⟨p,n,rfl,hp,hn⟩:=hc
 obtain ⟨p',n',rfl,hp',hn'⟩:=hd
 refine Pk ?_
 unfold L5
 refine fresh fun b2 F1 l1 q1 _=> ?_
 refine fresh fun b3 F2 l2 q2 _=> ?_
 replace q1:=l2 _ _ q1
 replace l1:=aa l1 l2
 have no:∀{F':PH},F2.le F'→x≠y→(Value.bool false=.bool (decide (x=y))∧F.le F'):=fun {F'} l h=>⟨by rw [decide_eq_false h],aa l1 l⟩
 have rf:=le_refl' F2
 refine ⟨_,ld q1 rfl,_,ld q2 rfl,?_⟩
 dsimp only
 rw [gK]
 refine ⟨fun k1=>⟨_,ld q1 rfl,_,ld q2 rfl,fun k2=>⟨_,ld q1 rfl,_,ld q2 rfl,?_⟩,fun k2=>no rf fun e=>k2 (by rw [e])⟩,fun k1=>no rf fun e=>by rw [e] at k1;simp at k1⟩
 dsimp only
 rw [gK]
 refine ⟨fun k3=>⟨_,ld q1 rfl,_,ld q2 rfl,?_⟩,fun k3=>no rf fun e=>by rw [e] at k3;simp at k3⟩
 refine (uR (hp.le l1) (hp'.le l1) h1).mono ?_
 rintro _ F3 ⟨rfl,l3⟩
 refine ⟨_,rfl,fun k4=>⟨_,ld (l3 _ _ q1) rfl,_,ld (l3 _ _ q2) rfl,?_⟩,fun k4=>no l3 fun e=>by rw [e] at k4;simp at k4⟩
 dsimp only
 rw [gK]
 refine ⟨fun k5=>⟨#[n.v,vi x.cond.2],rfl,eA (l3 _ _ q1) rfl,#[n'.v,vi y.cond.2],rfl,eA (l3 _ _ q2) rfl,?_⟩,fun k5=>no l3 fun e=>by rw [e] at k5;simp at k5⟩
 refine (tG (hn.le (aa l1 l3)) (hn'.le (aa l1 l3)) h2).mono ?_
 rintro _ F4 ⟨rfl,l4⟩
 refine ⟨_,rfl,?_,aa l1 (aa l3 l4)⟩
 congr 1
 rw [Bool.eq_iff_iff,decide_eq_true_eq,decide_eq_true_eq]
 have k1:=of_decide_eq_true k1
 have k3:=of_decide_eq_true k3
 have k4:=of_decide_eq_true k4
 have k5:=of_decide_eq_true k5
 constructor
 ·intro h
  cases x;cases y
  simp only at*
  simp [k1,k2,k3,k4,k5,h]
 ·intro h;rw [h]
theorem tI {x y:Pr} {c d:Array Value} (hc:Mem.rep F x c) (hd:Mem.rep F y d) (h1:x.right.length≤1000000000) (h2:x.cond.1.length≤1000000000) (h3:x.lay.length≤1000000000):ac prog 66 #[.agg c,.agg d] F fun r F'=>r=.bool (decide (x=y))∧F.le F':=by
 obtain ⟨p,n,a,rfl,hp,hn,ha⟩:=hc
 obtain ⟨p',n',a',rfl,hp',hn',ha'⟩:=hd
 refine Pm ?_
 unfold L6
 refine fresh fun b2 F1 l1 q1 _=> ?_
 refine fresh fun b3 F2 l2 q2 _=> ?_
 replace q1:=l2 _ _ q1
 replace l1:=aa l1 l2
 have no:∀{F':PH},F2.le F'→x≠y→(Value.bool false=.bool (decide (x=y))∧F.le F'):=fun {F'} l h=>⟨by rw [decide_eq_false h],aa l1 l⟩
 have rf:=le_refl' F2
 refine ⟨_,ld q1 rfl,_,ld q2 rfl,?_⟩
 dsimp only
 rw [gK]
 refine ⟨fun k1=>⟨_,ld q1 rfl,_,ld q2 rfl,fun k2=>⟨_,ld q1 rfl,_,ld q2 rfl,?_⟩,fun k2=>no rf fun e=>k2 (by rw [e])⟩,fun k1=>no rf fun e=>by rw [e] at k1;simp at k1⟩
 refine (uS (hp.le l1) (hp'.le l1) h1).mono ?_
 rintro _ F3 ⟨rfl,l3⟩
 refine ⟨_,rfl,fun k3=>⟨#[n.v,vi x.cond.2],rfl,eA (l3 _ _ q1) rfl,#[n'.v,vi y.cond.2],rfl,eA (l3 _ _ q2) rfl,?_⟩,fun k3=>no l3 fun e=>by rw [e] at k3;simp at k3⟩
 refine (tG (hn.le (aa l1 l3)) (hn'.le (aa l1 l3)) h2).mono ?_
 rintro _ F4 ⟨rfl,l4⟩
 replace l4:=aa l3 l4
 refine ⟨_,rfl,fun k4=>⟨_,ld (l4 _ _ q1) rfl,_,ld (l4 _ _ q2) rfl,fun k5=>⟨_,ld (l4 _ _ q1) rfl,_,ld (l4 _ _ q2) rfl,fun k6=>⟨_,ld (l4 _ _ q1) rfl,_,ld (l4 _ _ q2) rfl,?_⟩,fun k6=>no l4 fun e=>k6 (by rw [e])⟩,fun k5=>no l4 fun e=>by rw [e] at k5;simp at k5⟩,fun k4=>no l4 fun e=>by rw [e] at k4;simp at k4⟩
 refine (uT (ha.le (aa l1 l4)) (ha'.le (aa l1 l4)) h3).mono ?_
 rintro _ F5 ⟨rfl,l5⟩
 replace l5:=aa l4 l5
 refine ⟨_,rfl,fun k7=>⟨x.sco.arr,rfl,eA (l5 _ _ q1) rfl,y.sco.arr,rfl,eA (l5 _ _ q2) rfl,_,fun F=>AK x.sco y.sco F,?_,aa l1 l5⟩,fun k7=>no l5 fun e=>by rw [e] at k7;simp at k7⟩
 congr 1
 rw [Bool.eq_iff_iff,decide_eq_true_eq,decide_eq_true_eq]
 have k1:=of_decide_eq_true k1
 have k3:=of_decide_eq_true k3
 have k4:=of_decide_eq_true k4
 have k5:=beq_iff_eq.1 k5
 have k7:=of_decide_eq_true k7
 constructor
 ·intro h
  cases x;cases y
  simp only at*
  simp [k1,k2,k3,k4,k5,k6,k7,h]
 ·intro h;rw [h]
theorem tJ {x y:Lv} {c d:Array Value} (hc:Mem.rep F x c) (hd:Mem.rep F y d) (h1:x.ps.length≤1000000000) (h2:x.cond.1.length≤1000000000):ac prog 70 #[.agg c,.agg d] F fun r F'=>r=.bool (decide (x=y))∧F.le F':=by
 obtain ⟨p,n,rfl,hp,hn⟩:=hc
 obtain ⟨p',n',rfl,hp',hn'⟩:=hd
 refine Po ?_
 unfold L7
 refine fresh fun b2 F1 l1 q1 _=> ?_
 refine fresh fun b3 F2 l2 q2 _=> ?_
 replace q1:=l2 _ _ q1
 replace l1:=aa l1 l2
 have no:∀{F':PH},F2.le F'→x≠y→(Value.bool false=.bool (decide (x=y))∧F.le F'):=fun {F'} l h=>⟨by rw [decide_eq_false h],aa l1 l⟩
 refine ⟨_,ld q1 rfl,_,ld q2 rfl,?_⟩
 refine (kY (hp.le l1) (hp'.le l1) h1).mono ?_
 rintro _ F3 ⟨rfl,l3⟩
 refine ⟨_,rfl,fun k1=>⟨_,ld (l3 _ _ q1) rfl,_,ld (l3 _ _ q2) rfl,fun k2=>⟨#[n.v,vi x.cond.2],rfl,eA (l3 _ _ q1) rfl,#[n'.v,vi y.cond.2],rfl,eA (l3 _ _ q2) rfl,?_⟩,fun k2=>no l3 fun e=>k2 (by rw [e])⟩,fun k1=>no l3 fun e=>by rw [e] at k1;simp at k1⟩
 refine (tG (hn.le (aa l1 l3)) (hn'.le (aa l1 l3)) h2).mono ?_
 rintro _ F4 ⟨rfl,l4⟩
 refine ⟨_,rfl,?_,aa l1 (aa l3 l4)⟩
 congr 1
 rw [Bool.eq_iff_iff,decide_eq_true_eq,decide_eq_true_eq]
 have k1:=of_decide_eq_true k1
 constructor
 ·intro h
  cases x;cases y
  simp only at*
  simp [k1,k2,h]
 ·intro h;rw [h]
theorem tK {x y:Fi} {c d:Array Value} (hc:Mem.rep F x c) (hd:Mem.rep F y d) (h1:x.toks.length≤1000000000) (h2:x.cond.1.length≤1000000000):ac prog 73 #[.agg c,.agg d] F fun r F'=>r=.bool (decide (x=y))∧F.le F':=by
 obtain ⟨p,n,rfl,hp,hn⟩:=hc
 obtain ⟨p',n',rfl,hp',hn'⟩:=hd
 refine Pp ?_
 unfold L8
 refine fresh fun b2 F1 l1 q1 _=> ?_
 refine fresh fun b3 F2 l2 q2 _=> ?_
 replace q1:=l2 _ _ q1
 replace l1:=aa l1 l2
 have no:∀{F':PH},F2.le F'→x≠y→(Value.bool false=.bool (decide (x=y))∧F.le F'):=fun {F'} l h=>⟨by rw [decide_eq_false h],aa l1 l⟩
 have rf:=le_refl' F2
 refine ⟨_,ld q1 rfl,_,ld q2 rfl,fun k1=>⟨_,ld q1 rfl,_,ld q2 rfl,fun k2=>⟨_,ld q1 rfl,_,ld q2 rfl,fun k3=>⟨_,ld q1 rfl,_,ld q2 rfl,fun k4=>⟨_,ld q1 rfl,_,ld q2 rfl,fun k5=>⟨_,ld q1 rfl,_,ld q2 rfl,fun k6=>⟨_,ld q1 rfl,_,ld q2 rfl,?_⟩,
  fun k=>no rf fun e=>k (by rw [e])⟩,fun k=>no rf fun e=>k (by rw [e])⟩,fun k=>no rf fun e=>k (by rw [e])⟩,fun k=>no rf fun e=>k (by rw [e])⟩,fun k=>no rf fun e=>k (by rw [e])⟩,fun k=>no rf fun e=>k (by rw [e])⟩
 refine (kY (hp.le l1) (hp'.le l1) h1).mono ?_
 rintro _ F3 ⟨rfl,l3⟩
 refine ⟨_,rfl,fun k7=>⟨#[n.v,vi x.cond.2],rfl,eA (l3 _ _ q1) rfl,#[n'.v,vi y.cond.2],rfl,eA (l3 _ _ q2) rfl,?_⟩,fun k1=>no l3 fun e=>by rw [e] at k1;simp at k1⟩
 refine (tG (hn.le (aa l1 l3)) (hn'.le (aa l1 l3)) h2).mono ?_
 rintro _ F4 ⟨rfl,l4⟩
 refine ⟨_,rfl,?_,aa l1 (aa l3 l4)⟩
 congr 1
 rw [Bool.eq_iff_iff,decide_eq_true_eq,decide_eq_true_eq]
 have k7:=of_decide_eq_true k7
 constructor
 ·intro h
  cases x;cases y
  simp only at*
  simp [k1,k2,k3,k4,k5,k6,k7,h]
 ·intro h;rw [h]
end
structure Sm (g:Gr):Prop where
 c:g.conds.length≤1000000000
 n:g.fam.1.length≤1000000000
 t:g.toks.length≤1000000000
 s:g.nons.length≤1000000000
 p:g.prods.length≤1000000000
 l:g.lvs.length≤1000000000
 f:g.fils.length≤1000000000
 ti:∀x∈g.toks,x.pat.length≤1000000000∧x.cond.1.length≤1000000000
 pi:∀x∈g.prods,x.right.length≤1000000000∧x.cond.1.length≤1000000000∧x.lay.length≤1000000000
 li:∀x∈g.lvs,x.ps.length≤1000000000∧x.cond.1.length≤1000000000
 fi:∀x∈g.fils,x.toks.length≤1000000000∧x.cond.1.length≤1000000000
theorem uU {F:PH} {v w:Array Value} {g h:Gr} (hg:GV F v g) (hh:GV F w h) (hz:Sm g):ac prog 19 #[.agg v,.agg w] F fun r F'=>r=.bool (decide (g=h))∧F.le F':=by
 obtain ⟨c,n,t,s,p,l,f,rfl,hs⟩:=hg
 obtain ⟨c',n',t',s',p',l',f',rfl,hs'⟩:=hh
 obtain ⟨cb1,cb2,cb3,cb4⟩:=Ht
 refine Pe ?_
 unfold LX
 refine fresh fun b2 F1 l1 q1 _=> ?_
 refine fresh fun b3 F2 l2 q2 _=> ?_
 replace q1:=l2 _ _ q1
 replace l1:=aa l1 l2
 replace hs:=hs.le l1
 replace hs':=hs'.le l1
 have no:∀{F':PH},F2.le F'→g≠h→(Value.bool false=.bool (decide (g=h))∧F.le F'):=fun {F'} l h=>⟨by rw [decide_eq_false h],aa l1 l⟩
 have jf:∀{F':PH},F2.le F'→g≠h→jg b2 b3 false (fun r F'=>r=.bool (decide (g=h))∧F.le F') F':=fun {F'} l h=>by
  unfold jg
  exact ⟨fun h=>(by cases h),fun _=>no l h⟩
 refine ⟨_,ld q1 rfl,_,ld q2 rfl,?_⟩
 refine (kX hs.c hs'.c hz.c).mono ?_
 rintro _ F3 ⟨rfl,l3⟩
 refine ⟨_,rfl,fun k1=>⟨#[n.v,vi g.fam.2],rfl,eA (l3 _ _ q1) rfl,#[n'.v,vi h.fam.2],rfl,eA (l3 _ _ q2) rfl,?_⟩,fun k1=>jf l3 fun e=>by rw [e] at k1;simp at k1⟩
 refine (tG (hs.n.le l3) (hs'.n.le l3) hz.n).mono ?_
 rintro _ F4 ⟨rfl,l4⟩
 replace l4:=aa l3 l4
 refine ⟨_,rfl,fun k2=>⟨_,ld (l4 _ _ q1) rfl,_,ld (l4 _ _ q2) rfl,?_⟩,fun k2=>jf l4 fun e=>by rw [e] at k2;simp at k2⟩
 refine (kX (hs.s.le l4) (hs'.s.le l4) hz.s).mono ?_
 rintro _ F5 ⟨rfl,l5⟩
 replace l5:=aa l4 l5
 refine ⟨_,rfl,fun k3=>⟨_,ld (l5 _ _ q1) rfl,_,ld (l5 _ _ q2) rfl,?_⟩,fun k3=>jf l5 fun e=>by rw [e] at k3;simp at k3⟩
 by_cases k4:g.start=h.start
 case neg=>
  dsimp only
  rw [decide_eq_false k4]
  exact jf l5 fun e=>k4 (by rw [e])
 dsimp only
 rw [decide_eq_true k4]
 unfold jg
 refine ⟨fun _=>⟨_,ld (l5 _ _ q1) rfl,_,ld (l5 _ _ q2) rfl,?_⟩,fun h=>(by cases h)⟩
 refine (show ac prog 62 #[t.v,t'.v,.func (.func 63) #[] #[]] F5 (fun r F'=>r=.bool (decide (g.toks=h.toks))∧F5.le F') from
  Ok (ru (hs.t.le l5) (hs'.t.le l5) (by decide) hz.t rfl cb1 fun x hx y c d F1 _ hc hd=>tH hc hd (hz.ti x hx).1 (hz.ti x hx).2)).mono ?_
 rintro _ F6 ⟨rfl,l6⟩
 replace l6:=aa l5 l6
 refine ⟨_,rfl,fun k5=>⟨_,ld (l6 _ _ q1) rfl,_,ld (l6 _ _ q2) rfl,?_⟩,fun k5=>no l6 fun e=>by rw [e] at k5;simp at k5⟩
 refine (show ac prog 65 #[p.v,p'.v,.func (.func 66) #[] #[]] F6 (fun r F'=>r=.bool (decide (g.prods=h.prods))∧F6.le F') from
  Oo (ru (hs.p.le l6) (hs'.p.le l6) (by decide) hz.p rfl cb2 fun x hx y c d F1 _ hc hd=>tI hc hd (hz.pi x hx).1 (hz.pi x hx).2.1 (hz.pi x hx).2.2)).mono ?_
 rintro _ F7 ⟨rfl,l7⟩
 replace l7:=aa l6 l7
 refine ⟨_,rfl,fun k6=>⟨_,ld (l7 _ _ q1) rfl,_,ld (l7 _ _ q2) rfl,?_⟩,fun k6=>no l7 fun e=>by rw [e] at k6;simp at k6⟩
 refine (show ac prog 69 #[l.v,l'.v,.func (.func 70) #[] #[]] F7 (fun r F'=>r=.bool (decide (g.lvs=h.lvs))∧F7.le F') from
  Ox (ru (hs.l.le l7) (hs'.l.le l7) (by decide) hz.l rfl cb3 fun x hx y c d F1 _ hc hd=>tJ hc hd (hz.li x hx).1 (hz.li x hx).2)).mono ?_
 rintro _ F8 ⟨rfl,l8⟩
 replace l8:=aa l7 l8
 refine ⟨_,rfl,fun k7=>⟨_,ld (l8 _ _ q1) rfl,_,ld (l8 _ _ q2) rfl,?_⟩,fun k7=>no l8 fun e=>by rw [e] at k7;simp at k7⟩
 refine (show ac prog 72 #[f.v,f'.v,.func (.func 73) #[] #[]] F8 (fun r F'=>r=.bool (decide (g.fils=h.fils))∧F8.le F') from
  OA (ru (hs.f.le l8) (hs'.f.le l8) (by decide) hz.f rfl cb4 fun x hx y c d F1 _ hc hd=>tK hc hd (hz.fi x hx).1 (hz.fi x hx).2)).mono ?_
 rintro _ F9 ⟨rfl,l9⟩
 refine ⟨_,rfl,?_,aa l1 (aa l8 l9)⟩
 congr 1
 rw [Bool.eq_iff_iff,decide_eq_true_eq,decide_eq_true_eq]
 have k1:=of_decide_eq_true k1
 have k2:=of_decide_eq_true k2
 have k3:=of_decide_eq_true k3
 have k5:=of_decide_eq_true k5
 have k6:=of_decide_eq_true k6
 have k7:=of_decide_eq_true k7
 constructor
 ·intro hf
  cases g;cases h
  simp only at*
  simp [k1,k2,k3,k4,k5,k6,k7,hf]
 ·intro h;rw [h]
structure SlT (t e:TypeId) (n bytes:Nat) (z:Value):Prop where
 ht:prog.underlying t=some (.slice e)
 hsz:tsz prog e=some (n,bytes)
 hz:bk prog e=some z
 hzs:z.cells.size=n
 hn:0<n
 hb:bytes≤250
theorem tL {n m b:Nat} (hb:b≤250) (h:n+m≤500000000000):(n+m)*b≤140737488355328:=
 Nat.le_trans (Nat.mul_le_mul h hb) (by decide)
theorem St.appAt {G F:PH} {As:List (PH→Prop)} {t e n bytes:Nat} {z:Value} (T:SlT t e n bytes z) {s x:Sl} {olds news:List Value} {ty:TypeId} (h:St G F As) (i:Nat) (hi:As[i]? =some (own s e n olds)) (hx:RdS F x n news) (hst:∀v∈news,aj v)
  (hlen:s.len+x.len≤500000000000) {K:Sl→PH→Prop} (k:∀s' F',St G F' (As.set i (own s' e n (olds++news)))→s'.len=s.len+x.len→K s' F'):
  aC prog (Builtin.append_ #[t,t] ty #[s.v,x.v]) F fun v F=>∃s':Sl,v=Sl.v s'∧K s' F:=by
 obtain ⟨H,a1,a2,a3,a4⟩:=h.set (A':=own s e n olds) hi
 have ho:=(h.ownAt hi).1
 by_cases h0:x.len=0
 ·have hnil:news=[]:=List.eq_nil_of_length_eq_zero (by rw [hx.len,h0,Nat.zero_mul])
  subst hnil
  refine lq T.ht T.hsz T.hz T.hzs ho hx h0 (by have:=tL (n:=s.len) (m:=0) T.hb (by omega);simpa using this) (by omega) ⟨s,rfl,k s F ?_ (by omega)⟩
  rw [List.append_nil]
  exact a4 H F a1 (fun b hb=> .inl hb) a3 (fun b o hb _=>hb)
 ·refine nV T.ht T.hsz T.hz T.hzs T.hn ho hx (by omega) hst (tL T.hb hlen) (by omega) ?_
  rintro s' F' b ob rfl ho' hl' hbase hb
  obtain ⟨H,a1,a2,a3,a4⟩:=h.set (A':=own s' e n (olds++news)) hi
  have hb':H b≠none∨F b=none:=by
   rcases hb with ⟨a,ha,rfl⟩|hb
   ·obtain ⟨cur,hc⟩:=bN.elem a1 ha
    exact .inl (by rw [hc];simp)
   ·exact .inr hb
  refine ⟨s',rfl,k s' _ ?_ hl'⟩
  refine a4 (PH.set (fun _=>none) b ob) _ (ho'.keep fun a ha=>by rw [hbase a ha,an,an]) (fun x hx=> ?_) (fun x p hx=> ?_) (fun x p hx hn=> ?_)
  ·by_cases e:x=b
   ·rw [e];exact hb'
   ·rw [az _ _ e] at hx;exact absurd rfl hx
  ·by_cases e:x=b
   ·rw [e,an] at hx ⊢;exact hx
   ·rw [az _ _ e] at hx;cases hx
  ·have e:x≠b:=fun e=>by
    subst e
    rcases hb' with h|h
    ·exact h hn
    ·rw [h] at hx;cases hx
   rw [az _ _ e];exact hx
namespace St
section
variable {G F:PH} {As:List (PH→Prop)} {t e n bytes:Nat} {z:Value}
theorem pinOwn {s:Sl} {vs:List Value} (h:St G F (own s e n vs::As)) {K:PH→Prop} (k:∀G',G.le G'→RdS G' s n vs→St G' F As→K F):K F:=by
 obtain ⟨G',h1,⟨H,hA,hH⟩,h2⟩:=h.pin
 exact k G' h1 ((bN.rd hA).le hH) h2
theorem app0 (T:SlT t e n bytes z) {s x:Sl} {olds news:List Value} {ty:TypeId} (h:St G F (own s e n olds::As)) (hx:RdS F x n news) (hst:∀v∈news,aj v) (hlen:s.len+x.len≤500000000000) {K:Sl→PH→Prop}
  (k:∀s' F',St G F' (own s' e n (olds++news)::As)→s'.len=s.len+x.len→K s' F'):
  aC prog (Builtin.append_ #[t,t] ty #[s.v,x.v]) F fun v F=>∃s':Sl,v=Sl.v s'∧K s' F:=h.appAt T 0 rfl hx hst hlen k
theorem push0 (T:SlT t e n bytes z) {s:Sl} {olds:List Value} {c:Array Value} {ty:TypeId} (h:St G F (own s e n olds::As)) (hc:c.size=n) (hst:∀v∈c.toList,aj v) (hlen:s.len≤400000000000) {K:Sl→PH→Prop}
  (k:∀s' G' F',G.le G'→St G' F' (own s' e n (olds++c.toList)::As)→s'.len=s.len+1→K s' F'):
  ∀b,F b=none→atF (F.set b (.cells c e)) fun F=>aC prog (Builtin.append_ #[t,t] ty #[s.v,Sl.v (Sl.mk (some (Addr.mk b 0 none)) 1 1)]) F fun v F=>∃s':Sl,v=Sl.v s'∧K s' F:=by
 refine h.newG fun b G' F' l q _ h=> ?_
 have hx:RdS F' (Sl.mk (some (Addr.mk b 0 none)) 1 1) n c.toList:=RdS.new (h.le _ _ q) (List.take_of_length_le (by rw [Array.length_toList,hc,Nat.one_mul];exact Nat.le_refl _)) (by rw [Array.length_toList,hc,Nat.one_mul]) (Nat.le_refl _)
 exact h.app0 T hx hst (by show s.len+1≤_;omega) fun s' F'' h' hl'=>k s' G' F'' l h' hl'
theorem app1 {p0:PH→Prop} (T:SlT t e n bytes z) {s x:Sl} {olds news:List Value} {ty:TypeId} (h:St G F (p0::own s e n olds::As)) (hx:RdS F x n news) (hst:∀v∈news,aj v) (hlen:s.len+x.len≤500000000000) {K:Sl→PH→Prop}
  (k:∀s' F',St G F' (p0::own s' e n (olds++news)::As)→s'.len=s.len+x.len→K s' F'):
  aC prog (Builtin.append_ #[t,t] ty #[s.v,x.v]) F fun v F=>∃s':Sl,v=Sl.v s'∧K s' F:=h.appAt T 1 rfl hx hst hlen k
theorem push1 {p0:PH→Prop} (T:SlT t e n bytes z) {s:Sl} {olds:List Value} {c:Array Value} {ty:TypeId} (h:St G F (p0::own s e n olds::As)) (hc:c.size=n) (hst:∀v∈c.toList,aj v) (hlen:s.len≤400000000000) {K:Sl→PH→Prop}
  (k:∀s' G' F',G.le G'→St G' F' (p0::own s' e n (olds++c.toList)::As)→s'.len=s.len+1→K s' F'):
  ∀b,F b=none→atF (F.set b (.cells c e)) fun F=>aC prog (Builtin.append_ #[t,t] ty #[s.v,Sl.v (Sl.mk (some (Addr.mk b 0 none)) 1 1)]) F fun v F=>∃s':Sl,v=Sl.v s'∧K s' F:=by
 refine h.newG fun b G' F' l q _ h=> ?_
 have hx:RdS F' (Sl.mk (some (Addr.mk b 0 none)) 1 1) n c.toList:=RdS.new (h.le _ _ q) (List.take_of_length_le (by rw [Array.length_toList,hc,Nat.one_mul];exact Nat.le_refl _)) (by rw [Array.length_toList,hc,Nat.one_mul]) (Nat.le_refl _)
 exact h.app1 T hx hst (by show s.len+1≤_;omega) fun s' F'' h' hl'=>k s' G' F'' l h' hl'
end
end St
section
variable {α:Type} [Mem α] {F:PH}
def Hu (t e:TypeId) (s_0:Sl) (R:VR) (F:PH):Prop:=
 (((s_0.base.isNone)=true→
  R (Sl.v Sl.nil) F)∧
 ((s_0.base.isNone)=false→
  ∀b5,F b5=none→atF (F.set b5 (.cells #[] e)) fun F=>
  aC prog (Builtin.append_ #[t,t] t #[(Sl.v (Sl.mk (some (Addr.mk b5 0 none)) 0 0)),(Sl.v s_0)]) F fun v F=>∃v_7:Sl,v=(Sl.v v_7)∧
  R (Sl.v v_7) F))
theorem gH {s:Sl} {l:List α} {t e bytes:Nat} {z:Value} (T:SlT t e (Mem.n α) bytes z) (hs:RL F s l) (hl:l.length≤1000000000):Hu t e s (fun r F'=>(∃s',r=Sl.v s'∧RL F' s' l)∧F.le F') F:=by
 have hlen:=hs.len T.hn
 obtain ⟨vs,h1,h2⟩:=hs
 refine ⟨fun hb=> ?_,fun hb=> ?_⟩
 ·have h0:s.len=0:=by
   rcases Nat.eq_zero_or_pos s.len with h|h
   ·exact h
   ·obtain ⟨b,o,hb',_⟩:=h2.cells h
    rw [hb'] at hb
    cases hb
  have:l=[]:=List.eq_nil_of_length_eq_zero (by omega)
  subst this
  exact ⟨⟨Sl.nil,rfl,RL.nil F⟩,le_refl' F⟩
 ·refine fresh fun b5 F1 l1 q1 _=> ?_
  refine gO (olds:=[]) T.ht T.hsz T.hz T.hzs ⟨by simp,by simp,fun h=>by simp at h⟩ (h2.le l1) h1.st (tL T.hb (by simp only;omega)) (by simp only;omega) (fun h0 _=> ?_) (fun h0 hr=> ?_) (fun hlt cap b hc hb=> ?_)
  ·have h0:s.len=0:=by
    rcases Nat.eq_zero_or_pos s.len with h|h
    ·exact h
    ·have:=Nat.mul_pos h T.hn
     omega
   have:l=[]:=List.eq_nil_of_length_eq_zero (by omega)
   subst this
   exact ⟨_,rfl,⟨_,rfl,[],.nil,⟨by simp [cat,h0],by simp [h0],fun h=>by simp [h0] at h⟩⟩,l1⟩
  ·simp only at hr
   have:s.len=0:=by omega
   rw [this] at h0
   simp at h0
  ·refine ⟨_,rfl,⟨_,rfl,vs,h1.le (aa l1 (ae _ hb)),?_⟩,aa l1 (ae _ hb)⟩
   have e0:(0:Nat)+s.len=s.len:=by omega
   rw [e0] at hc ⊢
   refine RdS.new (an _ _ _) ?_ h2.len hc
   rw [show (([]:List Value).toArray++(cat vs).toArray++Builtin.zeroCells z.cells (cap - s.len)).toList=cat vs++(Builtin.zeroCells z.cells (cap - s.len)).toList by simp]
   rw [List.take_append_of_le_length (by rw [h2.len];exact Nat.le_refl _),List.take_of_length_le (by rw [h2.len];exact Nat.le_refl _)]
end
theorem Jr:SlT 30 9 1 16 (.string ⟨#[]⟩):=⟨underlying30,sz9,zr9,rfl,by decide,by decide⟩
theorem Ey:SlT 70 3 1 8 (.int .i64 0):=⟨underlying70,sz3,zr3,rfl,by decide,by decide⟩
theorem N0:∃b z,SlT 77 97 5 b z:=⟨_,_,underlying77,OS,OZ,rfl,by decide,by decide⟩
theorem Js:∃b z,SlT 62 69 2 b z:=⟨_,_,underlying62,OO,OV,rfl,by decide,by decide⟩
theorem N5:∃b z,SlT 63 101 3 b z:=⟨_,_,underlying63,Kt,Ku,rfl,by decide,by decide⟩
theorem Hv:∃b z,SlT 34 79 7 b z:=⟨_,_,underlying34,OR,OY,rfl,by decide,by decide⟩
theorem Di:∃b z,SlT 35 67 13 b z:=⟨_,_,underlying35,ON,OU,rfl,by decide,by decide⟩
theorem Jt:∃b z,SlT 36 72 4 b z:=⟨_,_,underlying36,OP,OW,rfl,by decide,by decide⟩
theorem Ju:∃b z,SlT 37 74 9 b z:=⟨_,_,underlying37,OQ,OX,rfl,by decide,by decide⟩
theorem N6:SlT 57 54 1 8 (.int .u64 0):=⟨underlying57,OM,OT,rfl,by decide,by decide⟩
section
variable {F:PH} {s:Sl}
theorem kC {l:List ByteArray} (hs:RL F s l) (hl:l.length≤1000000000):ac prog 83 #[s.v] F fun r F'=>(∃s',r=Sl.v s'∧RL F' s' l)∧F.le F':=OC (gH Jr hs hl)
theorem qn {l:List Int} (hs:RL F s l) (hl:l.length≤1000000000):ac prog 87 #[s.v] F fun r F'=>(∃s',r=Sl.v s'∧RL F' s' l)∧F.le F':=OK (gH Ey hs hl)
theorem AH {l:List Nd} (hs:RL F s l) (hl:l.length≤1000000000):ac prog 84 #[s.v] F fun r F'=>(∃s',r=Sl.v s'∧RL F' s' l)∧F.le F':=by
 obtain ⟨b,z,T⟩:=N0
 exact OE (gH T hs hl)
theorem AI {l:List Sy} (hs:RL F s l) (hl:l.length≤1000000000):ac prog 85 #[s.v] F fun r F'=>(∃s',r=Sl.v s'∧RL F' s' l)∧F.le F':=by
 obtain ⟨b,z,T⟩:=Js
 exact OG (gH T hs hl)
theorem AJ {l:List Cn} (hs:RL F s l) (hl:l.length≤1000000000):ac prog 86 #[s.v] F fun r F'=>(∃s',r=Sl.v s'∧RL F' s' l)∧F.le F':=by
 obtain ⟨b,z,T⟩:=N5
 exact OI (gH T hs hl)
end
end Go.Proofs.YtenpmjhnhepfdaaGreatDoor
