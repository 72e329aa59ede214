/-
  A reader of code. Part 6: regions in any order; code; functions.
-/
import Derived.Orders
import Derived.Tactics
import Derived.RowKit3
import Derived.OrdersHeld
import Derived.Scope
import Derived.Defers
import Derived.Laws.Append
import Derived.Test.YteilolbbgieadaaGreatDoorRows
import Derived.WalkKit
import Derived.ProofKit
import Derived.OpenShut
import Derived.SizedLaws
import Derived.Carry
import Derived.Deep.Slices
import Derived.Test.YteilolbbgieadaaGreatDoorProg
import Derived.KernelRfl
open Option renaming some->V,none->I
open Go.Obj renaming cells->Y
open Bool renaming false->mD,true->nk
open Go.Addr renaming add->nV,mk->oB
namespace Go.Proofs.YteilolbbgieadaaGreatDoor
open Go
theorem vr {a b:Nat} (h:Nat.ble (a+1) b=true):a<b:=Nat.le_of_ble_eq_true h
theorem Υ:type_of%@if_neg:=@if_neg
theorem Χ:type_of%@if_pos:=@if_pos
theorem δ:type_of%@decide_eq_true_eq:=@decide_eq_true_eq
theorem ε:type_of%@decide_eq_true:=@decide_eq_true
theorem ζ:type_of%@of_decide_eq_true:=@of_decide_eq_true
theorem η:type_of%@decide_eq_false:=@decide_eq_false
theorem ι:type_of%@of_decide_eq_false:=@of_decide_eq_false
theorem μ:type_of%@not_not_intro:=@not_not_intro
theorem N4:type_of%@Int.toNat_natCast:=@Int.toNat_natCast
theorem N5:type_of%@List.getElem?_eq_getElem:=@List.getElem?_eq_getElem
theorem N6:type_of%@List.getElem?_eq_some_iff:=@List.getElem?_eq_some_iff
theorem tT:type_of%@List.length_append:=@List.length_append
theorem ru:type_of%@Nat.le_refl:=@Nat.le_refl
theorem tS:type_of%@List.mem_cons:=@List.mem_cons
theorem vO:type_of%@List.mem_of_getElem?:=@List.mem_of_getElem?
theorem ub:type_of%@List.length_map:=@List.length_map
theorem vu:type_of%@List.mem_singleton:=@List.mem_singleton
theorem vj:type_of%@List.mem_append:=@List.mem_append
theorem wg:type_of%@List.length_cons:=@List.length_cons
theorem wB:type_of%@List.take_length:=@List.take_length
theorem wm:type_of%@Bool.eq_iff_iff:=@Bool.eq_iff_iff
theorem xZ:type_of%@List.append_assoc:=@List.append_assoc
theorem zM:type_of%@List.getElem?_append_left:=@List.getElem?_append_left
theorem zh:type_of%@List.take_of_length_le:=@List.take_of_length_le
theorem QX:type_of%@List.getD_eq_getElem?_getD:=@List.getD_eq_getElem?_getD
theorem yw:type_of%@List.getElem?_map:=@List.getElem?_map
theorem Ua:type_of%@List.getElem?_append_right:=@List.getElem?_append_right
theorem yt:type_of%@List.append_nil:=@List.append_nil
theorem xA:type_of%@List.map_cons:=@List.map_cons
theorem yR:type_of%@Option.some.inj:=@Option.some.inj
theorem xv:type_of%@List.mem_map:=@List.mem_map
theorem zQ:type_of%@Array.length_toList:=@Array.length_toList
theorem Ub:type_of%@List.length_singleton:=@List.length_singleton
theorem yW:type_of%@List.map_append:=@List.map_append
theorem x9:type_of%@Nat.zero_add:=@Nat.zero_add
theorem Wm:type_of%@List.eq_nil_of_length_eq_zero:=@List.eq_nil_of_length_eq_zero
theorem zB:type_of%@List.nil_append:=@List.nil_append
theorem xF:type_of%@Nat.mul_one:=@Nat.mul_one
theorem zK:type_of%@List.cons_append:=@List.cons_append
theorem Vy:type_of%@List.getElem?_cons_succ:=@List.getElem?_cons_succ
theorem z9:type_of%@List.length_take:=@List.length_take
theorem W4:type_of%@List.take_succ_eq_append_getElem:=@List.take_succ_eq_append_getElem
theorem yA:type_of%@Nat.zero_le:=@Nat.zero_le
theorem Wv:type_of%@Array.getElem?_eq_getElem:=@Array.getElem?_eq_getElem
theorem Vz:type_of%@List.mem_cons_of_mem:=@List.mem_cons_of_mem
theorem z6:type_of%@List.take_zero:=@List.take_zero
theorem VP:type_of%@List.getElem?_eq_none:=@List.getElem?_eq_none
theorem Vc:type_of%@List.getElem_mem:=@List.getElem_mem
theorem Xi:type_of%@List.take_append_of_le_length:=@List.take_append_of_le_length
theorem VA:type_of%@List.all_eq_true:=@List.all_eq_true
theorem VB:type_of%@List.nodup_append:=@List.nodup_append
theorem VC:type_of%@List.flatMap_cons:=@List.flatMap_cons
theorem VQ:type_of%@Bool.false_eq_true:=@Bool.false_eq_true
theorem Ww:type_of%@Nat.pow_le_pow_right:=@Nat.pow_le_pow_right
theorem VD:type_of%@Option.map_some:=@Option.map_some
theorem Vu:type_of%@List.drop_zero:=@List.drop_zero
theorem Xv:type_of%@Int.tmod_eq_emod_of_nonneg:=@Int.tmod_eq_emod_of_nonneg
theorem VT:type_of%@Bool.and_eq_true:=@Bool.and_eq_true
theorem W5:type_of%@List.take_append_drop:=@List.take_append_drop
theorem Wx:type_of%@List.take_add_one:=@List.take_add_one
theorem WH:type_of%@List.ext_getElem?:=@List.ext_getElem?
theorem WI:type_of%@List.length_range:=@List.length_range
theorem XJ:type_of%@List.drop_eq_getElem_cons:=@List.drop_eq_getElem_cons
theorem Xj:type_of%@Nat.mul_le_mul_right:=@Nat.mul_le_mul_right
theorem Vd:type_of%@Int.le_refl:=@Int.le_refl
theorem Xk:type_of%@Bool.and_eq_true_iff:=@Bool.and_eq_true_iff
theorem WO:type_of%@List.not_mem_nil:=@List.not_mem_nil
theorem XY:type_of%@Array.getElem?_eq_some_iff:=@Array.getElem?_eq_some_iff
theorem Xx:type_of%@List.length_replicate:=@List.length_replicate
theorem Wo:type_of%@Nat.add_assoc:=@Nat.add_assoc
theorem VV:type_of%@Nat.sub_zero:=@Nat.sub_zero
theorem Xy:type_of%@List.drop_succ_cons:=@List.drop_succ_cons
theorem Xz:type_of%@List.getElem?_range:=@List.getElem?_range
theorem WT:type_of%@List.nodup_cons:=@List.nodup_cons
theorem W8:type_of%@List.length_drop:=@List.length_drop
theorem XZ:type_of%@List.length_eq_zero_iff:=@List.length_eq_zero_iff
theorem X0:type_of%@List.getElem?_cons_zero:=@List.getElem?_cons_zero
theorem Wz:type_of%@Bool.true_and:=@Bool.true_and
theorem XA:type_of%@List.mem_cons_self:=@List.mem_cons_self
theorem Wp:type_of%@Nat.zero_mul:=@Nat.zero_mul
theorem X1:type_of%@List.getElem?_set_self:=@List.getElem?_set_self
theorem W9:type_of%@List.length_nil:=@List.length_nil
theorem Xa:type_of%@Bool.or_eq_true:=@Bool.or_eq_true
theorem WU:type_of%@List.mem_range:=@List.mem_range
theorem XB:type_of%@List.size_toArray:=@List.size_toArray
theorem YL:type_of%@Nat.testBit_two_pow_mul_add:=@Nat.testBit_two_pow_mul_add
theorem WA:type_of%@Nat.le_trans:=@Nat.le_trans
theorem Yi:type_of%@Nat.add_sub_cancel_left:=@Nat.add_sub_cancel_left
theorem Yj:type_of%@Int.eq_ofNat_of_zero_le:=@Int.eq_ofNat_of_zero_le
theorem Wn:type_of%@Nat.add_mul:=@Nat.add_mul
theorem W6:type_of%@Bool.false_and:=@Bool.false_and
theorem Ye:type_of%@List.drop_eq_nil_of_le:=@List.drop_eq_nil_of_le
theorem WJ:type_of%@Nat.succ_mul:=@Nat.succ_mul
theorem XU:type_of%@List.take_succ_cons:=@List.take_succ_cons
theorem XV:type_of%@List.flatMap_append:=@List.flatMap_append
theorem VU:type_of%@Nat.mod_lt:=@Nat.mod_lt
theorem Wy:type_of%@Nat.one_mul:=@Nat.one_mul
theorem YF:type_of%@List.getElem?_take_of_lt:=@List.getElem?_take_of_lt
theorem XK:type_of%@List.any_eq_true:=@List.any_eq_true
theorem Za:type_of%@Array.getD_eq_getD_getElem?:=@Array.getD_eq_getD_getElem?
theorem Zb:type_of%@Int.fdiv_eq_ediv_of_nonneg:=@Int.fdiv_eq_ediv_of_nonneg
theorem Zc:type_of%@Int.tdiv_eq_ediv_of_nonneg:=@Int.tdiv_eq_ediv_of_nonneg
theorem Yf:type_of%@List.append_toArray:=@List.append_toArray
theorem Yg:type_of%@List.length_pos_iff:=@List.length_pos_iff
theorem Zd:type_of%@List.map_eq_singleton_iff:=@List.map_eq_singleton_iff
theorem YG:type_of%@Array.getElem?_modify:=@Array.getElem?_modify
theorem YH:type_of%@Nat.eq_of_beq_eq_true:=@Nat.eq_of_beq_eq_true
theorem YI:type_of%@Array.getElem?_toList:=@Array.getElem?_toList
theorem Yh:type_of%@Nat.eq_zero_or_pos:=@Nat.eq_zero_or_pos
theorem XW:type_of%@List.mem_flatMap:=@List.mem_flatMap
theorem XX:type_of%@List.drop_length:=@List.drop_length
theorem Xw:type_of%@List.all_cons:=@List.all_cons
theorem YJ:type_of%@List.getElem?_modify:=@List.getElem?_modify
theorem XL:type_of%@List.drop_drop:=@List.drop_drop
theorem YK:type_of%@List.mem_of_mem_take:=@List.mem_of_mem_take
theorem Yk:type_of%@List.getElem?_set:=@List.getElem?_set
theorem Yl:type_of%@Bool.eq_false_iff:=@Bool.eq_false_iff
theorem X2:type_of%@List.mem_filter:=@List.mem_filter
theorem Ze:type_of%@Option.map_eq_some_iff:=@Option.map_eq_some_iff
theorem Ym:type_of%@Bool.not_eq_true:=@Bool.not_eq_true
theorem Yn:type_of%@List.getElem_map:=@List.getElem_map
theorem YM:type_of%@Bool.false_ne_true:=@Bool.false_ne_true
theorem Zf:type_of%@Nat.le_of_ble_eq_true:=@Nat.le_of_ble_eq_true
theorem Yo:type_of%@List.forIn_cons:=@List.forIn_cons
theorem Yp:type_of%@List.length_set:=@List.length_set
theorem Zg:type_of%@List.mem_append_left:=@List.mem_append_left
theorem XM:type_of%@Nat.add_comm:=@Nat.add_comm
theorem Zh:type_of%@List.getElem?_set_ne:=@List.getElem?_set_ne
theorem Zi:type_of%@Nat.testBit_two_pow:=@Nat.testBit_two_pow
theorem Zj:type_of%@Array.toList_append:=@Array.toList_append
theorem Zk:type_of%@Nat.add_one_sub_one:=@Nat.add_one_sub_one
theorem YN:type_of%@List.prefix_refl:=@List.prefix_refl
theorem Yq:type_of%@Nat.mul_le_mul:=@Nat.mul_le_mul
theorem X3:type_of%@List.map_map:=@List.map_map
theorem X4:type_of%@Nat.sub_self:=@Nat.sub_self
theorem YO:type_of%@Nat.min_eq_left:=@Nat.min_eq_left
theorem Yr:type_of%@Bool.or_false:=@Bool.or_false
theorem Ys:type_of%@Prod.mk.injEq:=@Prod.mk.injEq
abbrev PH:=Nat->Option Obj
namespace PH
def set (F:PH) (b:Nat) (o:Obj):PH:=λx=>if x=b then V o else F x
def cell (F:PH) (a:Addr):Option Value:=
 match F a.block with
 |some (Y c _ _)=>if a.spot.isSome then I else c[a.off]?
 |_=>I
def le (F G:PH):Prop:=∀b o,F b=V o->G b=V o
end PH
structure Ev where
 os:Os
 tape:Nat->Question->Nat
 output:Array (Nat×ByteArray)
 fr:PH
structure Sat (e:Ev) (w:World) (F:PH):Prop where
 os:w.os=e.os
 tape:w.tape=e.tape
 output:w.output=e.output
 heap:∀b o,F b=V o->w.heap[b]? =V o
 frame:∀b o,e.fr b=V o->F b=I/\w.heap[b]? =V o
def ak (v:Value):Prop:=(∀xs,v≠.agg xs)/\(∀xs,v≠.tuple xs)
def Yz (fr:Nat×Nat) (i:Nat):Bool:=fr.1<=i && i<fr.2
def jS:Obj->Option (TypeId×Nat)
 | Y c e _=>V (e,c.size)
 |_=>I
def uS (o:Obj) (i:Nat):Bool:=
 match o with
 | Y _ _ fr=>Yz fr i
 |_=>mD
def aG {α:Type} (P:Program):Sem α->PH->(α->PH->Prop)->Prop
 | .pure a,F,Q=>Q a F
 | .load _ a k,F,Q=>∃v,F.cell a=V v/\aG P (k v) F Q
 | .store _ a v k,F,Q=>ak v/\∃c e fr,F a.block=V (Y c e fr)/\a.spot=I/\a.off<c.size/\Yz fr a.off=mD/\
   aG P k (F.set a.block (Y (c.setIfInBounds a.off v) e fr)) Q
 | .new o k,F,Q=>∀b,F b=I->aG P (k b) (F.set b o) Q
 | .shape r k,F,Q=>∃o,F r=V o/\aG P (k (jS o)) F Q
 | .freeze a n k,F,Q=>if n=0 then aG P k F Q else ∃c e fr,F a.block=V (Y c e fr)/\
   aG P k (F.set a.block (Y c e (if fr.1==fr.2 then (a.off,a.off+n) else (min fr.1 a.off,max fr.2 (a.off+n))))) Q
 | .frozen a k,F,Q=>∃o,F a.block=V o/\aG P (k (uS o a.off)) F Q
 | .getObj r k,F,Q=>∃o,F r=V o/\(∀c e fr,o≠Y c e fr)/\aG P (k o) F Q
 | .setObj r o k,F,Q=>∃o',F r=V o'/\(∀c e fr,o'≠Y c e fr)/\aG P k (F.set r o) Q
 | .choose q k,F,Q=>if q.forced then aG P (k 0) F Q else ∀t,aG P (k (q.cut t)) F Q
 | .sys _ _,_,_=>False
 | .program k,F,Q=>aG P (k P) F Q
 | .mark _ k,F,Q=>aG P k F Q
 | .halt _,_,_=>False
section
variable {e:Ev} {w:World} {F:PH}
theorem Sat.cell (h:Sat e w F) {a:Addr} {v:Value} (g:F.cell a=V v):w.cell? a=V v:=by
 unfold PH.cell at g;unfold World.cell?;split at g
 ·rename_i c t A r;rw [h.heap _ _ r];exact g
 ·cases g
theorem Sat.lt (h:Sat e w F) {b:Nat} {o:Obj} (g:F b=V o):b<w.heap.size:=by have:=h.heap _ _ g;exact (XY.1 this).1
theorem Sat.fresh (h:Sat e w F):F w.heap.size=I:=by
 cases hb:F w.heap.size with
 |none=>rfl
 |some o=>exact absurd (h.lt hb) (by omega)
theorem Sat.push (h:Sat e w F) (o:Obj):Sat e {w with heap:=w.heap.push o} (F.set w.heap.size o):=by
 refine ⟨h.os,h.tape,h.output,λb A g=> ?_,λb A g=> ?_⟩
 ·unfold PH.set at g;split at g
  ·rename_i r;subst r;simpa using g
  ·rename_i r;have B:=h.heap _ _ g;have C:=h.lt g;show (w.heap.push o)[b]? =V A;rw [Array.getElem?_push,Υ (by omega)];exact B
 ·obtain ⟨B,C⟩:=h.frame b A g;have D:=(XY.1 C).1;refine ⟨?_,?_⟩
  ·unfold PH.set;rw [Υ (by omega)];exact B
  ·show (w.heap.push o)[b]? =V A;rw [Array.getElem?_push,Υ (by omega)];exact C
theorem Sat.modify (h:Sat e w F) {r:Nat} {o J:Obj} (L:F r=V J) (g:Array Obj) (H:g[r]? =V o) (G:∀b,b≠r->g[b]? =w.heap[b]?):
  Sat e {w with heap:=g} (F.set r o):=by
 refine ⟨h.os,h.tape,h.output,λb E B=> ?_,λb E B=> ?_⟩
 ·unfold PH.set at B;split at B
  ·rename_i A;subst A;exact H.trans B
  ·rename_i A;exact (G b A).trans (h.heap _ _ B)
 ·obtain ⟨D,K⟩:=h.frame b E B;have C:b≠r:=λe=>by rw [e,L] at D;cases D
  exact ⟨by unfold PH.set;rw [Υ C];exact D,(G b C).trans K⟩
theorem Sat.drawn (h:Sat e w F) (n:Nat):Sat e {w with drawn:=n} F:=⟨h.os,h.tape,h.output,h.heap,h.frame⟩
theorem Cr {α:Type} {P:Program} {e:Ev} (s:Sem α):∀(F:PH) (w:World) (Q:α->PH->Prop),aG P s F Q->Sat e w F->
  ∃a w' N,s.run P w=.ok a w'/\Sat e w' N/\Q a N:=by
 induction s with
 |pure a=>intro F w Q h A;exact ⟨a,w,F,rfl,A,h⟩
 |load m a k ih=>intro F w Q h A;obtain ⟨v,X,h⟩:=h;simp only [Sem.run,A.cell X];exact ih v F w Q h A
 |store m a v k ih=>
  intro F w Q h A;obtain ⟨⟨R,W⟩,c,t,O,B,H,G,M,h⟩:=h;have g:=A.heap _ _ B;have D:w.cell? a=V c[a.off]:=by simp [World.cell?,g,H,G]
  have K:w.frozen? a=mD:=by obtain ⟨lo,hi⟩:=O;simpa [World.frozen?,g,Yz] using M
  have J:(Sem.store m a v k).run P w=k.run P (w.setCell a v):=by cases v<;>first|exact absurd rfl (R _)|exact absurd rfl (W _)|simp [Sem.run,D,K]
  rw [J];refine ih _ _ Q h ?_;have:w.setCell a v={w with heap:=(w.setCell a v).heap}:=rfl;rw [this];refine A.modify B _ ?_ (λb C=> ?_)
  ·simp [World.setCell,YG,g,H]
  ·simp only [World.setCell,YG];rw [Υ (λh=>C h.symm)]
 |new o k ih=>intro F w Q h A;exact ih _ _ _ Q (h _ A.fresh) (A.push o)
 |shape r k ih=>
  intro F w Q h A;obtain ⟨o,B,h⟩:=h;have g:=A.heap _ _ B;have:w.shape? r=(jS o):=by unfold World.shape?;rw [g];cases o<;>simp [jS]
  simp only [Sem.run,this];exact ih _ F w Q h A
 |freeze a n k ih=>
  intro F w Q h A;simp only [Sem.run,World.freeze];unfold aG at h;split at h
  ·rename_i E;rw [Χ E];exact ih F w Q h A
  ·rename_i E;rw [Υ E];obtain ⟨c,t,O,B,h⟩:=h;have g:=A.heap _ _ B;refine ih _ _ Q h (A.modify B _ ?_ (λb C=> ?_))
   ·simp [YG,g]
   ·rw [YG,Υ (λh=>C h.symm)]
 |frozen a k ih=>
  intro F w Q h A;obtain ⟨o,B,h⟩:=h;have g:=A.heap _ _ B;have:w.frozen? a=(uS o a.off):=by unfold World.frozen?;rw [g];cases o<;>simp [uS,Yz]
  simp only [Sem.run,this];exact ih _ F w Q h A
 |getObj r k ih=>
  intro F w Q h A;obtain ⟨o,B,E,h⟩:=h;have g:=A.heap _ _ B;have:(Sem.getObj r k).run P w=(k o).run P w:=by cases o<;>first|exact absurd rfl (E _ _ _)|simp only [Sem.run,g]
  rw [this];exact ih _ F w Q h A
 |setObj r o k ih=>
  intro F w Q h A;obtain ⟨o',B,E,h⟩:=h;have g:=A.heap _ _ B;have G:=A.lt B;have:(Sem.setObj r o k).run P w=k.run P {w with heap:=w.heap.setIfInBounds r o}:=by cases o'<;>first|exact absurd rfl (E _ _ _)|simp only [Sem.run,g]
  rw [this];refine ih _ _ Q h (A.modify B _ ?_ (λb C=> ?_))
  ·simp [G]
  ·rw [Array.getElem?_setIfInBounds_ne (λh=>C h.symm)]
 |choose q k ih=>
  intro F w Q h A;simp only [Sem.run];unfold aG at h;split
  ·rename_i L;rw [Χ L] at h;exact ih _ F w Q h A
  ·rename_i L;rw [Υ L] at h;exact ih _ F _ Q (h _) (A.drawn _)
 |sys c k ih=>intro F w Q h;exact h.elim
 |program k ih=>intro F w Q h A;exact ih _ F w Q h A
 |mark m k ih=>intro F w Q h A;exact ih F w Q h A
 |halt h=>intro F w Q h;exact h.elim
end
theorem uT {α g:Type} {P:Program} (s:Sem α) (f:α->Sem g):∀(F:PH) (Q:g->PH->Prop),
  aG P (s.bind f) F Q↔aG P s F (λa w=>aG P (f a) w Q):=by
 induction s with
 |pure a=>intro F Q;rfl
 |load m a k ih=>intro F Q;simp only [Sem.bind,aG,ih]
 |store m a v k ih=>intro F Q;simp only [Sem.bind,aG,ih]
 |new o k ih=>intro F Q;simp only [Sem.bind,aG,ih]
 |shape r k ih=>intro F Q;simp only [Sem.bind,aG,ih]
 |freeze a n k ih=>intro F Q;simp only [Sem.bind,aG,ih]
 |frozen a k ih=>intro F Q;simp only [Sem.bind,aG,ih]
 |getObj r k ih=>intro F Q;simp only [Sem.bind,aG,ih]
 |setObj r o k ih=>intro F Q;simp only [Sem.bind,aG,ih]
 |choose q k ih=>intro F Q;simp only [Sem.bind,aG,ih]
 |sys c k ih=>intro F Q;simp only [Sem.bind,aG]
 |program k ih=>intro F Q;simp only [Sem.bind,aG,ih]
 |mark m k ih=>intro F Q;simp only [Sem.bind,aG,ih]
 |halt h=>intro F Q;simp only [Sem.bind,aG]
theorem aD {α g:Type} {P:Program} (s:Sem α) (f:α->Sem g) (F:PH) (Q:g->PH->Prop):
  aG P (s>>=f) F Q↔aG P s F (λa h=>aG P (f a) h Q):=uT s f F Q
theorem df {α:Type} {P:Program} (s:Sem α):∀(F:PH) {Q w:α->PH->Prop},aG P s F Q->(∀a F,Q a F->w a F)->aG P s F w:=by
 induction s with
 |pure a=>intro F Q w h g;exact g _ _ h
 |load m a k ih=>rintro F Q w ⟨v,A,h⟩ g;exact ⟨v,A,ih v F h g⟩
 |store m a v k ih=>rintro F Q w ⟨A,c,e,D,C,K,J,H,h⟩ g;exact ⟨A,c,e,D,C,K,J,H,ih _ h g⟩
 |new o k ih=>intro F Q w h g b G;exact ih _ _ (h b G) g
 |shape r k ih=>rintro F Q w ⟨o,A,h⟩ g;exact ⟨o,A,ih _ F h g⟩
 |freeze a n k ih=>
  intro F Q w h g;unfold aG at h ⊢;split at h
  ·rename_i B;rw [Χ B];exact ih F h g
  ·rename_i B;rw [Υ B];obtain ⟨c,e,D,A,h⟩:=h;exact ⟨c,e,D,A,ih _ h g⟩
 |frozen a k ih=>rintro F Q w ⟨o,A,h⟩ g;exact ⟨o,A,ih _ F h g⟩
 |getObj r k ih=>rintro F Q w ⟨o,A,C,h⟩ g;exact ⟨o,A,C,ih _ F h g⟩
 |setObj r o k ih=>rintro F Q w ⟨E,A,C,h⟩ g;exact ⟨E,A,C,ih _ h g⟩
 |choose q k ih=>
  intro F Q w h g;unfold aG at h ⊢;split at h
  ·rename_i B;rw [Χ B];exact ih _ F h g
  ·rename_i B;rw [Υ B];exact λt=>ih _ F (h t) g
 |sys c k ih=>intro F Q w h;exact h.elim
 |program k ih=>intro F Q w h g;exact ih _ F h g
 |mark m k ih=>intro F Q w h g;exact ih F h g
 |halt h=>intro F Q w h;exact h.elim
abbrev En:=Nat->Value
def upd (E:En) (d:Nat) (v:Value):En:=λt=>bif Nat.beq t d then v else E t
def cQ (E:En):Option Tmp->Value->En
 |some d,v=>upd E d v
 |none,_=>E
def ev (E:En):Operand->Value
 | .tmp t=>E t
 | .const v=>v
 | .global g=> .pointer (V ⟨g,0,I⟩)
 | .func f=> .func (.func f) #[] #[]
def S8 (args:List Value):En:=λt=>args.getD t undef
def Ct (P:Program) (d:Deferred):Prop:=∃fv cap f args,d.target=.fn fv cap/\∀w,(invoke d.target d.args).run P w=.ok (.enter f args) w/\
 CallsD P f args .returning w λe u' w'=>(∃v,e=.returned v)/\u'=.returning/\w'=w
theorem js {P:Program} {B:Func} {tmps:Array Value} {w:World} {v:Value} {R:Ending->World->Prop} (C:(results B tmps).run P w=.ok v w) (r:R (.returned v) w):
  ∀ds:List Deferred,(∀d∈ds,Ct P d)->Leaves P B tmps R ds .returning w
 |[],_=>⟨v,C,r⟩
 |d::ds,h=>by obtain ⟨E,cap,f,g,D,A⟩:=h d (by simp);refine ⟨by simp,E,cap,f,g,D,(A w).1,(A w).2.mono ?_⟩;rintro e H G ⟨⟨F,rfl⟩,rfl,rfl⟩;exact js C r ds λd hd=>h d (Vz _ hd)
structure Ag (P:Program) (n:Nat) (a:Act) (E:En):Prop where
 size:a.tmps.size=n
 defers:∀d∈a.defers,Ct P d
 val:∀t,a.tmps.getD t undef=E t
theorem Ag.eval {P:Program} {n:Nat} {a:Act} {E:En} (h:Ag P n a E):a.eval=ev E:=by
 funext x;cases x with
 |tmp t=>exact h.val t
 |_=>rfl
def fC (n:Nat):Option Tmp->Bool
 |some d=>Nat.blt d n
 |none=>nk
theorem lz {i j:Nat} (h:¬i=j):Nat.beq i j=mD:=by
 cases hb:Nat.beq i j with
 |false=>rfl
 |true=>exact absurd (YH hb) h
theorem Ag.put {P:Program} {n:Nat} {a:Act} {E:En} (h:Ag P n a E) {d:Option Tmp} (v:Value) (hd:fC n d=nk):Ag P n (a.put d v) (cQ E d v):=by
 cases d with
 |none=>exact h
 |some d=>
  have r:d<n:=by simpa [fC,Nat.blt_eq] using hd
  refine ⟨by simp [Act.put,h.size],h.defers,λt=> ?_⟩;simp only [Act.put,cQ,upd];have w:=h.val t;by_cases g:t=d
  ·subst g;simp [h.size,r]
  ·have:Nat.beq t d=mD:=lz g;simp only [this,cond_false];rw [<- w];simp [Array.getElem?_setIfInBounds_ne (Ne.symm g)]
def QL (P:Program) (e:Ev) (n:Nat) (Q:Exit->En->PH->Prop):Exit->Act->World->Prop:=λx a w=>∃E F,Ag P n a E/\Sat e w F/\Q x E F
def aj (P:Program) (f:FuncId) (args:Array Value) (F:PH) (R:Value->PH->Prop):Prop:=
 ∀e w,Sat e w F->Calls P f args w λen w'=>∃v F',en=.returned v/\Sat e w' F'/\R v F'
def PH.and (F H:PH):PH:=λb=>match F b with|some o=>V o|none=>H b
theorem PH.and_left {F H:PH} {b:Nat} {o:Obj} (h:F b=V o):(F.and H) b=V o:=by simp [PH.and,h]
theorem PH.and_right {F H:PH} {b:Nat} (h:F b=I):(F.and H) b=H b:=by simp [PH.and,h]
theorem aj.beside {P:Program} {f:FuncId} {args:Array Value} {F H:PH} {R:Value->PH->Prop} (h:aj P f args F R) (hd:∀b o,H b=V o->F b=I):
  aj P f args (F.and H) λv O=>∃G,R v G/\O=G.and H/\∀b o,H b=V o->G b=I:=by
 intro e w B;have r:∀{F:PH} {b:Nat},(F.and H) b=I->F b=I/\H b=I:=λ{F b} g=>by
  unfold PH.and at g;split at g
  ·cases g
  ·rename_i E;exact ⟨E,g⟩
 refine (h ⟨e.os,e.tape,e.output,e.fr.and H⟩ w ⟨B.os,B.tape,B.output,λb o g=>B.heap b o (PH.and_left g),λb o g=> ?_⟩).mono ?_
 ·simp only [PH.and] at g;split at g
  ·rename_i A C;cases g;obtain ⟨K,N⟩:=B.frame b _ C;exact ⟨(r K).1,N⟩
  ·have M:=hd b o g;exact ⟨M,B.heap b o ((PH.and_right M).trans g)⟩
 ·rintro en w' ⟨v,G,rfl,D,W⟩;have J:∀b o,H b=V o->G b=I:=λb o g=>by
   have Q:∃A,(e.fr.and H) b=V A:=by
    cases E:e.fr b with
    |none=>exact ⟨o,(PH.and_right E).trans g⟩
    |some A=>exact ⟨A,PH.and_left E⟩
   obtain ⟨A,C⟩:=Q;exact (D.frame b A C).1
  refine ⟨v,_,rfl,⟨D.os,D.tape,D.output,λb o g=> ?_,λb o g=> ?_⟩,G,W,rfl,J⟩
  ·cases hG:G b with
   |some A=>rw [PH.and_left hG] at g;cases g;exact D.heap b _ hG
   |none=>
    rw [PH.and_right hG] at g;have L:e.fr b=I:=by
     cases E:e.fr b with
     |none=>rfl
     |some A=>have:=(r (B.frame b A E).1).2;rw [g] at this;cases this
    exact (D.frame b o ((PH.and_right L).trans g)).2
  ·obtain ⟨K,_⟩:=B.frame b o g;have h3:=(r K).2;obtain ⟨h4,X⟩:=D.frame b o (PH.and_left g);exact ⟨by rw [PH.and_right h4];exact h3,X⟩
theorem aj.mono {P:Program} {f:FuncId} {args:Array Value} {F:PH} {R r:Value->PH->Prop} (h:aj P f args F R) (D:∀v g,R v g->r v g):
  aj P f args F r:=λe w C=>(h e w C).mono λ_ _ ⟨v,g,A,B,E⟩=>⟨v,g,A,B,D v g E⟩
def HC (P:Program) (n:Nat) (c:Code) (Q:Exit->En->PH->Prop) (E:En) (F:PH):Prop:=
 ∀e a w,Ag P n a E->Sat e w F->c.wp P (QL P e n Q) a w
def HL (P:Program) (n:Nat) (ops:Array Oper) (Q:Exit->En->PH->Prop) (l:List Oper) (E:En) (F:PH):Prop:=
 ∀e a w,Ag P n a E->Sat e w F->wpList P ops (QL P e n Q) l a w
abbrev QH (K:En->PH->Prop) (Q:Exit->En->PH->Prop):Exit->En->PH->Prop
 | .normal,E,F=>K E F
 |x,E,F=>Q x E F
abbrev KN (id:Nat) (Q:Exit->En->PH->Prop):Exit->En->PH->Prop
 | .exit i,E,F=>bif Nat.beq i id then Q .normal E F else Q (.exit i) E F
 |x,E,F=>Q x E F
section
variable {P:Program} {n:Nat} {Q:Exit->En->PH->Prop} {E:En} {F:PH}
theorem NF (h:Q .normal E F):HC P n .skip Q E F:=λ_ _ _ g st=>wp_skip ⟨E,F,g,st,h⟩
theorem S9 (h:Q .ret E F):HC P n .ret Q E F:=λ_ _ _ g st=>wp_ret ⟨E,F,g,st,h⟩
theorem NG {g:Nat} (h:Q (.exit g) E F):HC P n (.exit g) Q E F:=λ_ _ _ r st=>wp_exit ⟨E,F,r,st,h⟩
theorem Cv {x y:Code} (h:HC P n x (QH (HC P n y Q) Q) E F):HC P n (.seq x y) Q E F:=λe a w H st=>
 wp_seq (wp_mono (h e a w H st) λG B D ⟨A,C,g,r,q⟩=>by
  cases G with
  |normal=>exact q e B D g r
  |_=>exact ⟨A,C,g,r,q⟩)
theorem qJ {c:Operand} {x y:Code} {t:Bool} (B:ev E c=.bool t) (r:t=nk->HC P n x Q E F) (A:t=mD->HC P n y Q E F):
  HC P n (.cond c x y) Q E F:=λe a w h st=>
 wp_cond_split (by rw [h.eval];exact B) (λg=>r g e a w h st) (λg=>A g e a w h st)
theorem KO {l:Nat} (h:Q .normal E F):HC P n (.label l) Q E F:=λ_ _ _ g st=>wp_label ⟨E,F,g,st,h⟩
def aaz (Q:Exit->En->PH->Prop):Exit->En->PH->Prop
 | .goto _,_,_=>False
 |x,E,F=>Q x E F
theorem KP {c:Code} (h:HC P n c (aaz Q) E F):HC P n (.scope c) Q E F:=λe a w D st=>
 wp_scope_straight (wp_mono (h e a w D st) λC G H ⟨A,B,g,r,q⟩=>by
  cases C with
  |goto l=>exact q.elim
  |_=>exact ⟨A,B,g,r,q⟩)
theorem KQ {A:Nat} {c:Code} (h:HC P n c (KN A Q) E F):HC P n (.block A c) Q E F:=λe a w G st=>
 wp_block (wp_mono (h e a w G st) λD H J ⟨B,C,g,r,q⟩=>by
  cases D with
  |exit i=>
   simp only [Exit.inBlock,KN] at q ⊢;by_cases hi:i=A
   ·subst hi;have:Nat.beq i i=nk:=by simp
    simp only [this,cond_true] at q;rw [Χ rfl];exact ⟨B,C,g,r,q⟩
   ·have:Nat.beq i A=mD:=lz hi;simp only [this,cond_false] at q;rw [Υ hi];exact ⟨B,C,g,r,q⟩
  |_=>exact ⟨B,C,g,r,q⟩)
theorem NH {c:Code} (L:Nat->En->PH->Prop) (m0:Nat) (h0:L m0 E F)
  (C:∀m E F,L m E F->HC P n c (QH (λE' X=>∃M,M<m/\L M E' X) Q) E F):HC P n (.loop c) Q E F:=by
 intro e a w ag st b k cs;have key:∀m a w E F,Ag P n a E->Sat e w F->L m E F->
   ∃G N O,QL P e n Q G N O/\Arrives P (lone (b.at a (.code c::.inLoop c::k)) cs w) b k cs G N O:=by
  intro m;induction m using Nat.strongRecOn with
  |_ m ih=>
   intro a w E F ag st hI;obtain ⟨G,r,h,B,g⟩:=C m E F hI e a w ag st b (.inLoop c::k) cs;cases G with
   |normal=>obtain ⟨E',X,W,a0,M,a1,R⟩:=B;obtain ⟨J,K,H,D,A⟩:=ih M a1 r h E' X W a0 R;exact ⟨J,K,H,D,.of_steps (Steps.trans g (.one step_inLoop)) A⟩
   |exit id=>exact ⟨_,r,h,B,.pass (x:=.inLoop c) rfl (λ_ _=> .inl (by simp)) g⟩
   |goto l=>exact ⟨_,r,h,B,.pass (x:=.inLoop c) rfl (λ_ _=> .inl (by simp)) g⟩
   |ret=>exact ⟨_,r,h,B,.pass (x:=.inLoop c) rfl (λ_ _=> .inl (by simp)) g⟩
   |panic ch=>exact ⟨_,r,h,B,.pass (x:=.inLoop c) rfl (λ_ _=> .inl (by simp)) g⟩
   |outgrown=>exact ⟨_,r,h,B,.pass (x:=.inLoop c) rfl (λ_ _=> .inl (by simp)) g⟩
 obtain ⟨G,N,O,B,g⟩:=key m0 a w E F ag st h0;exact ⟨G,N,O,B,.of_steps (.one step_loop) g⟩
theorem GH {g:Nat} {l:List Oper} (h:HL P n l.toArray Q l E F):HC P n (.region g l.toArray mD) Q E F:=λe a w r st=>
 wp_region_lit (h e a w r st)
def bJ (P:Program) (K:En->PH->Prop) (o:Oper) (E:En):Next->PH->Prop
 | .value v,F=>K (cQ E o.dst v) F
 | .skip,F=>K (cQ E o.dst undef) F
 | .enter f args,F=>aj P f args F λv F'=>K (cQ E o.dst v) F'
 | .defer d,F=>Ct P d/\K (cQ E o.dst undef) F
 |_,_=>False
theorem QI {o:Oper} {e:Ev} {a:Act} {w:World} {K:En->PH->Prop} {G:Act->World->Prop} {J:Exit->Act->World->Prop} (r:Ag P n a E) (st:Sat e w F) (hd:fC n o.dst=nk)
  (C:∀a w E F,Ag P n a E->Sat e w F->K E F->G a w)
  (h:aG P (execOp (ev E) o) F (bJ P K o E)):o.wp P a w G J:=by
 obtain ⟨M,O,F',W,g,A⟩:=Cr _ F w _ h st;unfold Oper.wp;rw [r.eval,W];cases M with
 |value v=>exact C _ _ _ _ (r.put v hd) g A
 |skip=>exact C _ _ _ _ (r.put undef hd) g A
 |enter f H=>refine (A e O g).mono ?_;rintro _ R ⟨v,N,rfl,B,X⟩;exact C _ _ _ _ (r.put v hd) B X
 |defer d=>have D:Ag P n {a with defers:=d::a.defers} E:=⟨r.size,λL h=>(tS.1 h).elim (λe=>e▸A.1) (r.defers L),r.val⟩;exact C _ _ _ _ (D.put undef hd) g A.2
 |_=>exact A.elim
def yE (ops:Array Oper) (E:En) (j:Nat):Option Bool:=
 match (ops[j]?).bind (·.dst) with
 |some t=>(match E t with| .bool b=>V b|_=>I)
 |none=>I
theorem Ag.yE_eq {a:Act} (h:Ag P n a E) (ops:Array Oper) (j:Nat):yielded ops a.tmps j=yE ops E j:=by
 unfold yielded yE;cases (ops[j]?).bind (·.dst) with
 |none=>rfl
 |some t=>
  have g:=h.val t;simp only [Option.bind_some];rw [<- g,Za];cases a.tmps[t]? with
  |none=>rfl
  |some v=>cases v<;>rfl
theorem Ag.wanted_eq {a:Act} (h:Ag P n a E) (ops:Array Oper) (o:Oper):Region.wanted o (yielded ops a.tmps)=Region.wanted o (yE ops E):=by
 unfold Region.wanted;cases o.guard with
 |none=>rfl
 |some g=>simp only [h.yE_eq]
theorem Ta {ops:Array Oper} (h:Q .normal E F):HL P n ops Q [] E F:=λ_ _ _ g st=>wpList_nil ⟨E,F,g,st,h⟩
theorem QJ {ops:Array Oper} {o:Oper} {l:List Oper} (r:Region.wanted o (yE ops E)=nk) (hd:fC n o.dst=nk)
  (h:aG P (execOp (ev E) o) F (bJ P (HL P n ops Q l) o E)):HL P n ops Q (o::l) E F:=λe a w g st=>by
 unfold wpList;rw [g.wanted_eq,Χ r];exact .inl (QI g st hd (λa w E F g st A=>A e a w g st) h)
theorem NI {ops:Array Oper} {o:Oper} {l:List Oper} (r:Region.wanted o (yE ops E)=mD) (hd:fC n o.dst=nk)
  (h:HL P n ops Q l (cQ E o.dst undef) F):HL P n ops Q (o::l) E F:=λe a w g st=>by
 unfold wpList;rw [g.wanted_eq,Υ (by simp [r])];exact h e _ _ (g.put undef hd) st
def oX (P:Program) (fn:Func) (E:En) (F:PH) (v:Value):Prop:=
 ∀e w tmps,Sat e w F->(∀t:Nat,Array.getD tmps t undef=E t)->(results fn tmps).run P w=.ok v w
abbrev NJ (P:Program) (fn:Func) (R:Value->PH->Prop):Exit->En->PH->Prop
 | .normal,E,F| .ret,E,F=>∃v,oX P fn E F v/\R v F
 |_,_,_=>False
theorem NK {f:FuncId} {A:Func} {c:Code} {args:List Value} {R:Value->PH->Prop} (M:P.funcs[f]? =V A) (N:A.body=V c)
  (K:A.ntmps=n) (L:Nat.ble args.length n=nk) (h:HC P n c (NJ P A R) (S8 args) F):aj P f args.toArray F R:=λe w st=>by
 have J:args.length<=n:=by simpa [Nat.ble_eq] using L
 refine calls_of_wp_defers M N ?_;refine wp_mono (h e _ w ⟨?_,λ_ h=>(by cases h),λt=> ?_⟩ st) ?_
 ·simp [K];omega
 ·simp only [S8,Za,QX,Array.getElem?_append,XB,Array.getElem?_replicate];by_cases D:t<args.length
  ·simp [D]
  ·simp only [D,if_false];rw [VP (by omega)];split<;>rfl
 ·rintro O X H ⟨W,G,g,r,q⟩;cases O with
  |normal=>obtain ⟨v,C,B⟩:=q;exact js (C e H _ r g.val) ⟨v,G,rfl,r,B⟩ _ g.defers
  |ret=>obtain ⟨v,C,B⟩:=q;exact js (C e H _ r g.val) ⟨v,G,rfl,r,B⟩ _ g.defers
  |_=>exact q.elim
end
section
variable {P:Program} {ops:Array Oper} {md:Region.Mode}
def Oper.waits (md:Region.Mode) (o:Oper) (r:Nat):Bool:=o.after.toList.any λe=>Region.binds md e && e.on==r
theorem Cw {o:Oper} {r:Nat}:Oper.waits md o r=mD↔∀e∈o.after,Region.binds md e=nk->e.on≠r:=by
 unfold Oper.waits;rw [<- Ym,XK];constructor
 ·intro h x g B A;exact h ⟨x,by simpa using g,by simp [B,A]⟩
 ·rintro h ⟨x,g,w⟩;simp only [VT,beq_iff_eq] at w;exact h x (by simpa using g) w.1 w.2
abbrev cv:=List (Nat×(World->Prop))
def cv.hold (Sp:cv) (w:World):Prop:=∀r∈Sp,r.2 w
def cv.rest (md:Region.Mode) (o:Oper) (Sp:cv):cv:=Sp.filter λr=> !Oper.waits md o r.1
def iK (P:Program) (md:Region.Mode) (ops:Array Oper) (Q:Exit->Act->World->Prop):Nat->Array Bool->cv->Act->World->Prop
 |0,listed,_,a,w=>Region.ready md ops listed=[]/\Q .normal a w
 |fuel+1,listed,Sp,a,w=>
  (Region.ready md ops listed=[]->Q .normal a w)/\
  ∀i∈Region.ready md ops listed,∀o,ops[i]? =V o->
   wpOp P ops Q i (λa' w'=>(Sp.rest md o).hold w'/\iK P md ops Q fuel (listed.setIfInBounds i nk) (Sp.rest md o) a' w') a w
variable {Q:Exit->Act->World->Prop}
theorem tn:∀(fuel:Nat) (listed:Array Bool) (g:cv) (a:Act) (w:World),iK P md ops Q fuel listed g a w->wpAny P md ops Q fuel listed a w
 |0,_,_,_,_,h=>h
 |fuel+1,_,_,_,_,h=>⟨h.1,λi hi=>by
   obtain ⟨_,o,C,_⟩:=mem_ready.1 hi
   exact wpOp_mono (λA B r=>tn fuel _ _ A B r.2) (h.2 i hi o C)⟩
theorem cv.rest_sub {o:Oper} {A g:cv} (h:∀r∈g,r∈A):∀r∈cv.rest md o g,r∈cv.rest md o A:=by intro r w;unfold cv.rest at*;rw [X2] at*;exact ⟨h r w.1,w.2⟩
theorem tq:∀(fuel:Nat) (listed:Array Bool) (A g:cv) (a:Act) (w:World),(∀r∈g,r∈A)->iK P md ops Q fuel listed A a w->
  iK P md ops Q fuel listed g a w
 |0,_,_,_,_,_,_,h=>h
 |fuel+1,_,_,_,_,_,hs,h=>⟨h.1,λi hi o F=>wpOp_mono (λC E B=>⟨λr D=>B.1 r (cv.rest_sub hs r D),tq fuel _ _ _ C E (cv.rest_sub hs) B.2⟩) (h.2 i hi o F)⟩
theorem nj {S:World->Prop} {i:Nat} {oi:Oper} {v:Value} (hi:ops[i]? =V oi) (K:∀(j:Nat) (o:Oper) cs b,ops[j]? =V o->o.op≠.select cs b)
  (hQ:∀c a w,Q (.panic c) (a.put oi.dst v) w->Q (.panic c) a w):
  ∀(fuel:Nat) (g:Array Bool) (W:cv) (a:Act) (w:World),
   (∀j O,ops[j]? =V O->j≠i->g.getD j nk=mD->(∀e∈O.after,Region.binds md e=nk->e.on≠i)->oi.apart ops O=nk)->
   i∈Region.ready md ops g->YieldsIf P ops S oi v a->S w->W.hold w->
   iK P md ops Q fuel (g.setIfInBounds i nk) ((i,S)::W) (a.put oi.dst v) w->iK P md ops Q (fuel+1) g W a w:=by
 intro fuel;induction fuel with
 |zero=>
  intro g W a w _ R hy hS hh H;refine ⟨λh=>(by rw [h] at R;cases R),λj hj O E=> ?_⟩;by_cases B:j=i
  ·subst B;exact hy.wpOp hi hS ⟨λr A=>hh r (X2.1 A).1,H⟩
  ·have:=ready_mono hj B;rw [H.1] at this;cases this
 |succ fuel ih=>
  intro g W a w F R hy hS hh H;refine ⟨λh=>(by rw [h] at R;cases R),λj hj O E=> ?_⟩;by_cases B:j=i
  ·subst B;refine hy.wpOp hi hS ⟨λr A=>hh r (X2.1 A).1,?_⟩;exact tq (fuel+1) _ _ _ _ _ (λr A=>Vz _ (X2.1 A).1) H
  ·have J:=H.2 j (ready_mono hj B) O E;obtain ⟨M,C,N,a2⟩:=mem_ready.1 hj;obtain rfl:C=O:=by rw [E] at N;exact (yR N).symm
   have L:∀e∈C.after,Region.binds md e=nk->e.on≠i:=λe he hb a3=>by
    have J:=a2 e he hb;have h0:=(mem_ready.1 R).1;rw [a3] at J;rcases Nat.lt_or_ge i g.size with h'|h'
    ·simp [h'] at h0 J;rw [h0] at J;cases J
    ·simp [Array.getElem?_eq_none h'] at J
   have hw:Oper.waits md C i=mD:=Cw.2 L;have X:cv.rest md C ((i,S)::W)=(i,S)::cv.rest md C W:=by unfold cv.rest;rw [List.filter_cons_of_pos (by simp [hw])]
   rw [X] at J;have h2:=wpOp_putIf E (F j C E B M L) (λcs b=>K i oi cs b hi) (λcs b=>K j C cs b E) hQ hy J;have G:∀k ok,ops[k]? =V ok->k≠i->(g.setIfInBounds j nk).getD k nk=mD->
     (∀e∈ok.after,Region.binds md e=nk->e.on≠i)->oi.apart ops ok=nk:=λk ok hk a5 a1 a4=>by
    refine F k ok hk a5 ?_ a4;by_cases a0:j=k
    ·subst a0;exact M
    ·rw [getD_set_ne nk a0] at a1;exact a1
   refine wpOp_mono (λa' w' h3=> ?_) h2;obtain ⟨a6,D,h3⟩:=h3;refine ⟨λr A=>D r (Vz _ A),?_⟩;refine ih (g.setIfInBounds j nk) _ a' w' G (ready_mono R (Ne.symm B)) a6 (D _ (XA ..)) (λr A=>D r (Vz _ A)) ?_;rw [Array.setIfInBounds_comm _ _ B];exact h3
end
section
variable {P:Program} {n:Nat} {Q:Exit->En->PH->Prop} {E:En} {F:PH} {ops:Array Oper}
def Cy (F:PH) (S:World->Prop):Prop:=∀e w,Sat e w F->S w
def fX (Sp:cv) (F:PH):Prop:=∀r∈Sp,Cy F r.2
def RG (P:Program) (n:Nat) (ops:Array Oper) (Q:Exit->En->PH->Prop) (fuel:Nat) (listed:Array Bool) (Sp:cv) (E:En) (F:PH):Prop:=
 ∀e a w,Ag P n a E->Sat e w F->iK P .any ops (QL P e n Q) fuel listed Sp a w
theorem NL {r:Nat} (g:P.follows .mixedOrders=nk) (h:RG P n ops Q ops.size (Array.replicate ops.size mD) [] E F):
  HC P n (.region r ops nk) Q E F:=λe a _ A st=>
 wp_region_any g (tn _ _ _ _ _ (h e a _ A (st.drawn _)))
theorem NM {fuel:Nat} {listed:Array Bool} {A:cv} (g:Region.ready .any ops listed=[]) (h:Q .normal E F):RG P n ops Q fuel listed A E F:=
 λe a w r st=>by
  cases fuel with
  |zero=>exact ⟨g,E,F,r,st,h⟩
  |succ fuel=>exact ⟨λ_=>⟨E,F,r,st,h⟩,by rw [g];simp⟩
def QM (P:Program) (S:World->Prop) (E:En) (o:Oper) (v:Value):Prop:=∀w,S w->(execOp (ev E) o).run P w=.ok (.value v) w
theorem Fq {S:World->Prop} {i:Nat} {g:Oper} {v:Value} {fuel:Nat} {listed:Array Bool} {A:cv} (hi:ops[i]? =V g)
  (M:Region.noSelect ops=nk) (N:Region.free .any ops listed i=nk) (C:(Region.ready .any ops listed).contains i=nk) (hd:fC n g.dst=nk)
  (H:∀c E F,¬Q (.panic c) E F) (G:Region.wanted g (yE ops E)=nk) (L:QM P S E g v) (J:Cy F S) (K:fX A F)
  (h:RG P n ops Q fuel (listed.setIfInBounds i nk) ((i,S)::A) (cQ E g.dst v) F):RG P n ops Q (fuel+1) listed A E F:=λe a w D st=>
 nj hi (Region.noSelect_spec M) (λc a w ⟨E,F,_,_,q⟩=>(H c E F q).elim) fuel listed A a w (Region.free_spec hi N) (by simpa using C)
  (.inl ⟨by rw [D.wanted_eq];exact G,λw B=>by rw [D.eval];exact L w B⟩) (J e w st) (λr C=>K r C e w st) (h e _ w (D.put v hd) st)
theorem jt {Q:Exit->Act->World->Prop} {A:Region.Mode} (i:Nat):∀(fuel:Nat) (listed:Array Bool) (g:cv) (a:Act) (w:World),iK P A ops Q fuel listed g a w->
  iK P A ops Q fuel listed ((i,λ_=>True)::g) a w
 |0,_,_,_,_,h=>h
 |fuel+1,_,g,_,_,h=>⟨h.1,λj K o J=>wpOp_mono (λG H B=>by
   by_cases D:Oper.waits A o i=nk
   ·have:cv.rest A o ((i,λ_=>True)::g)=cv.rest A o g:=by unfold cv.rest;rw [List.filter_cons_of_neg (by simp [D])]
    rw [this];exact B
   ·have:cv.rest A o ((i,λ_=>True)::g)=(i,λ_=>True)::cv.rest A o g:=by unfold cv.rest;rw [List.filter_cons_of_pos (by simpa using D)]
    rw [this];refine ⟨λr C=> ?_,jt i fuel _ _ G H B.2⟩;rcases tS.1 C with rfl|C
    ·trivial
    ·exact B.1 r C) (h.2 j K o J)⟩
theorem NN {i:Nat} {g:Oper} {v:Value} {fuel:Nat} {listed:Array Bool} {r:cv} (hi:ops[i]? =V g)
  (G:Region.noSelect ops=nk) (H:Region.free .any ops listed i=nk) (J:(Region.ready .any ops listed).contains i=nk) (hd:fC n g.dst=nk)
  (B:∀c E F,¬Q (.panic c) E F) (A:Region.wanted g (yE ops E)=nk) (D:QM P (λ_=>True) E g v) (C:fX r F)
  (h:RG P n ops Q fuel (listed.setIfInBounds i nk) r (cQ E g.dst v) F):RG P n ops Q (fuel+1) listed r E F:=
 Fq (S:=λ_=>True) hi G H J hd B A D (λ_ _ _=>trivial) C λe a w K st=>jt i _ _ _ _ _ (h e a w K st)
theorem NO {i:Nat} {A:Oper} {fuel:Nat} {listed:Array Bool} {g:cv} (hi:ops[i]? =V A)
  (J:Region.noSelect ops=nk) (K:Region.free .any ops listed i=nk) (B:(Region.ready .any ops listed).contains i=nk) (hd:fC n A.dst=nk)
  (G:∀c E F,¬Q (.panic c) E F) (D:Region.wanted A (yE ops E)=mD) (H:fX g F)
  (h:RG P n ops Q fuel (listed.setIfInBounds i nk) g (cQ E A.dst undef) F):RG P n ops Q (fuel+1) listed g E F:=λe a w C st=>
 nj (S:=λ_=>True) hi (Region.noSelect_spec J) (λc a w ⟨E,F,_,_,q⟩=>(G c E F q).elim) fuel listed g a w (Region.free_spec hi K) (by simpa using B)
  (.inr ⟨by rw [C.wanted_eq];exact D,rfl⟩) trivial (λr B=>H r B e w st) (jt i _ _ _ _ _ (h e _ w (C.put undef hd) st))
def aaA (P:Program) (n:Nat) (ops:Array Oper) (Q:Exit->En->PH->Prop) (fuel:Nat) (listed:Array Bool) (Sp:cv) (E:En) (F:PH) (i:Nat):Prop:=
 ∃o,ops[i]? =V o/\fC n o.dst=nk/\Region.wanted o (yE ops E)=nk/\
  aG P (execOp (ev E) o) F (bJ P (λE' F'=>fX (Sp.rest .any o) F'/\RG P n ops Q fuel (listed.setIfInBounds i nk) (Sp.rest .any o) E' F') o E)
theorem Tb {fuel:Nat} {listed:Array Bool} {H:cv} {D:List Nat} (G:Region.ready .any ops listed=D) (A:D.isEmpty=mD)
  (h:∀i∈D,aaA P n ops Q fuel listed H E F i):RG P n ops Q (fuel+1) listed H E F:=λe a w C st=>by
 subst G;refine ⟨λN=>(by rw [N] at A;cases A),λi hi o K=> ?_⟩;obtain ⟨L,g,hd,M,B⟩:=h i hi;obtain rfl:L=o:=by rw [K] at g;exact (yR g).symm
 unfold wpOp;simp only [K];rw [C.wanted_eq,Χ M];exact .inl (QI C st hd (λa w E F C st J=>⟨λr G=>J.1 r G e w st,J.2 e a w C st⟩) B)
end
def qX {α:Type} (P:Program):Sem α->PH->α->Prop
 | .pure a,_,v=>a=v
 | .load _ a k,F,v=>∃x,F.cell a=V x/\qX P (k x) F v
 | .shape r k,F,v=>∃o,F r=V o/\qX P (k (jS o)) F v
 | .frozen a k,F,v=>∃o,F a.block=V o/\qX P (k (uS o a.off)) F v
 | .getObj r k,F,v=>∃o,F r=V o/\(∀c e fr,o≠Y c e fr)/\qX P (k o) F v
 | .program k,F,v=>qX P (k P) F v
 | .mark _ k,F,v=>qX P k F v
 |_,_,_=>False
theorem qK {α:Type} {P:Program} {e:Ev} (s:Sem α):∀(F:PH) (w:World) (v:α),qX P s F v->Sat e w F->s.run P w=.ok v w:=by
 induction s with
 |pure a=>intro F w v h _;exact congrArg (λx=>Result.ok x w) h
 |load m a k ih=>rintro F w v ⟨x,D,h⟩ A;simp only [Sem.run,A.cell D];exact ih x F w v h A
 |shape r k ih=>
  rintro F w v ⟨o,B,h⟩ A;have g:=A.heap _ _ B;have:w.shape? r=jS o:=by unfold World.shape?;rw [g];cases o<;>simp [jS]
  simp only [Sem.run,this];exact ih _ F w v h A
 |frozen a k ih=>
  rintro F w v ⟨o,B,h⟩ A;have g:=A.heap _ _ B;have:w.frozen? a=uS o a.off:=by unfold World.frozen?;rw [g];cases o<;>simp [uS,Yz]
  simp only [Sem.run,this];exact ih _ F w v h A
 |getObj r k ih=>
  rintro F w v ⟨o,B,C,h⟩ A;have g:=A.heap _ _ B;have:(Sem.getObj r k).run P w=(k o).run P w:=by cases o<;>first|exact absurd rfl (C _ _ _)|simp only [Sem.run,g]
  rw [this];exact ih _ F w v h A
 |program k ih=>intro F w v h A;exact ih _ F w v h A
 |mark m k ih=>intro F w v h A;exact ih F w v h A
 |_=>intro F w v h;exact h.elim
theorem g0 {α:Type} {P:Program} (s:Sem α):∀(F:PH) (v:α) (Q:α->PH->Prop),qX P s F v->Q v F->aG P s F Q:=by
 induction s with
 |pure a=>intro F v Q h g;cases h;exact g
 |load m a k ih=>rintro F v Q ⟨x,B,h⟩ g;exact ⟨x,B,ih x F v Q h g⟩
 |shape r k ih=>rintro F v Q ⟨o,w,h⟩ g;exact ⟨o,w,ih _ F v Q h g⟩
 |frozen a k ih=>rintro F v Q ⟨o,w,h⟩ g;exact ⟨o,w,ih _ F v Q h g⟩
 |getObj r k ih=>rintro F v Q ⟨o,w,A,h⟩ g;exact ⟨o,w,A,ih _ F v Q h g⟩
 |program k ih=>intro F v Q h g;exact ih _ F v Q h g
 |mark m k ih=>intro F v Q h g;exact ih F v Q h g
 |_=>intro F v Q h;exact h.elim
theorem am {α C:Type} {P:Program} (s:Sem α) (f:α->Sem C):∀(F:PH) (v:C),qX P (s>>=f) F v↔∃a,qX P s F a/\qX P (f a) F v:=by
 show ∀(F:PH) (v:C),qX P (s.bind f) F v↔_;induction s with
 |pure a=>intro F v;simp only [Sem.bind,qX];exact ⟨λh=>⟨a,rfl,h⟩,by rintro ⟨_,rfl,h⟩;exact h⟩
 |load m a k ih=>intro F v;simp only [Sem.bind,qX,ih];exact ⟨λ⟨x,A,a,g,w⟩=>⟨a,⟨x,A,g⟩,w⟩,λ⟨a,⟨x,A,g⟩,w⟩=>⟨x,A,a,g,w⟩⟩
 |shape r k ih=>intro F v;simp only [Sem.bind,qX,ih];exact ⟨λ⟨x,A,a,g,w⟩=>⟨a,⟨x,A,g⟩,w⟩,λ⟨a,⟨x,A,g⟩,w⟩=>⟨x,A,a,g,w⟩⟩
 |frozen a k ih=>intro F v;simp only [Sem.bind,qX,ih];exact ⟨λ⟨x,A,a,g,w⟩=>⟨a,⟨x,A,g⟩,w⟩,λ⟨a,⟨x,A,g⟩,w⟩=>⟨x,A,a,g,w⟩⟩
 |getObj r k ih=>intro F v;simp only [Sem.bind,qX,ih];exact ⟨λ⟨x,A,B,a,g,w⟩=>⟨a,⟨x,A,B,g⟩,w⟩,λ⟨a,⟨x,A,B,g⟩,w⟩=>⟨x,A,B,a,g,w⟩⟩
 |program k ih=>intro F v;simp only [Sem.bind,qX,ih]
 |mark m k ih=>intro F v;simp only [Sem.bind,qX,ih]
 |_=>intro F v;simp [Sem.bind,qX]
@[simp] theorem cJ {α:Type} {P:Program} (a v:α) (F:PH):qX P (pure a:Sem α) F v↔a=v:=Iff.rfl
@[simp] theorem aL {α:Type} {P:Program} (a:α) (F:PH) (Q:α->PH->Prop):aG P (pure a:Sem α) F Q↔Q a F:=Iff.rfl
@[simp] theorem NP {α g:Type} {P:Program} (f:α->g) (s:Sem α) (F:PH) (v:g):qX P (Functor.map f s) F v↔∃a,qX P s F a/\f a=v:=am s (λa=>pure (f a)) F v
@[simp] theorem qip {α g:Type} {P:Program} (f:α->g) (s:Sem α) (F:PH) (Q:g->PH->Prop):aG P (Functor.map f s) F Q↔aG P s F (λa h=>Q (f a) h):=uT s (λa=>pure (f a)) F Q
def vy (P:Program) (t:TypeId):Option (Nat×Nat):=(P.info? t).map λi=>(i.size,i.bytes)
def bv (P:Program) (t:TypeId):Option Value:=(P.info? t).bind (·.zero)
theorem tw {P:Program} {t s b:Nat} (h:vy P t=V (s,b)):∃i,P.info? t=V i/\i.size=s/\i.bytes=b:=by
 unfold vy at h;cases hi:P.info? t with
 |none=>simp [hi] at h
 |some i=>simp [hi] at h;exact ⟨i,rfl,h.1,h.2⟩
theorem tA {P:Program} {t:Nat} {z:Value} (h:bv P t=V z):∃i,P.info? t=V i/\i.zero=V z:=by
 unfold bv at h;cases hi:P.info? t with
 |none=>simp [hi] at h
 |some i=>simp [hi] at h;exact ⟨i,rfl,h⟩
section
variable {P:Program} {F:PH}
theorem bu {t s b:Nat} (h:vy P t=V (s,b)) (v:Nat):qX P (sizeOf t) F v↔s=v:=by
 obtain ⟨i,g,w,C⟩:=tw h;unfold sizeOf typeInfo program;simp only [am];constructor
 ·rintro ⟨B,⟨p,r,h⟩,A⟩;simp only [qX] at r;subst r;rw [g] at h;simp only [cJ] at h A;subst h;rw [<- w];exact A
 ·rintro rfl;refine ⟨i,⟨P,rfl,?_⟩,?_⟩
  ·rw [g];rfl
  ·rw [<- w];rfl
theorem fm {t s b:Nat} (h:vy P t=V (s,b)) (Q:Nat->PH->Prop):aG P (sizeOf t) F Q↔Q s F:=by obtain ⟨i,g,r,w⟩:=tw h;unfold sizeOf typeInfo program;simp only [aD,aG,g,aL,r]
theorem fD {t s b:Nat} (h:vy P t=V (s,b)):∃i:TypeInfo,i.bytes=b/\∀(F:PH) (Q:TypeInfo->PH->Prop),aG P (typeInfo t) F Q↔Q i F:=by obtain ⟨i,g,w,r⟩:=tw h;refine ⟨i,r,λF Q=> ?_⟩;unfold typeInfo program;simp only [aD,aG,g,aL]
theorem az {t:Nat} {d:TypeDesc} (h:P.underlying t=V d) (v:TypeDesc):qX P (underlying t) F v↔d=v:=by
 unfold underlying program;simp only [am];constructor
 ·rintro ⟨p,r,g⟩;simp only [qX] at r;subst r;rw [h] at g;exact g
 ·rintro rfl;exact ⟨P,rfl,by rw [h];rfl⟩
theorem bW {t:Nat} {d:TypeDesc} (h:P.underlying t=V d) (Q:TypeDesc->PH->Prop):aG P (underlying t) F Q↔Q d F:=by unfold underlying program;simp only [aD,aG,h,aL]
theorem eA {t:Nat} {z:Value} (h:bv P t=V z) (Q:Value->PH->Prop):aG P (zeroValue t) F Q↔Q z F:=by obtain ⟨i,g,r⟩:=tA h;unfold zeroValue typeInfo program;simp only [aD,aG,g,aL,r]
theorem gH {t:Nat} {z:Value} (h:bv P t=V z) (v:Value):qX P (zeroValue t) F v↔z=v:=by
 obtain ⟨i,g,w⟩:=tA h;unfold zeroValue typeInfo program;simp only [am];constructor
 ·rintro ⟨B,⟨p,r,h⟩,A⟩;simp only [qX] at r;subst r;rw [g] at h;simp only [cJ] at h;subst h;rw [w] at A;exact A
 ·rintro rfl;exact ⟨i,⟨P,rfl,by rw [g];rfl⟩,by rw [w];rfl⟩
def RD (P:Program) (E:En) (F:PH) (o:Oper) (v:Value):Prop:=qX P (execOp (ev E) o) F (.value v)
variable {n:Nat} {Q:Exit->En->PH->Prop} {E:En} {ops:Array Oper} {o:Oper} {l:List Oper}
theorem qfF {v:Value} (h:RD P E F o v) (K:HL P n ops Q l (cQ E o.dst v) F) (g:Region.wanted o (yE ops E)=nk:=by rfl) (hd:fC n o.dst=nk:=by rfl):
  HL P n ops Q (o::l) E F:=QJ g hd (g0 _ _ _ _ h K)
theorem qfG {i:Nat} {g:Oper} {v:Value} {fuel:Nat} {listed:Array Bool} {r:cv} (hi:ops[i]? =V g)
  (G:Region.noSelect ops=nk) (H:Region.free .any ops listed i=nk) (J:(Region.ready .any ops listed).contains i=nk) (hd:fC n g.dst=nk)
  (B:∀c E F,¬Q (.panic c) E F) (A:Region.wanted g (yE ops E)=nk) (D:RD P E F g v) (C:fX r F)
  (h:RG P n ops Q fuel (listed.setIfInBounds i nk) ((i,λw=>∃e F,Sat e w F/\RD P E F g v)::r) (cQ E g.dst v) F):RG P n ops Q (fuel+1) listed r E F:=
 Fq hi G H J hd B A (λ_ ⟨_,_,st,h⟩=>qK _ _ _ _ h st) (λe _ st=>⟨e,F,st,D⟩) C h
theorem qfH {i:Nat} {g:Oper} {v:Value} {fuel:Nat} {listed:Array Bool} {r:cv} (hi:ops[i]? =V g)
  (G:Region.noSelect ops=nk) (H:Region.free .any ops listed i=nk) (J:(Region.ready .any ops listed).contains i=nk) (hd:fC n g.dst=nk)
  (B:∀c E F,¬Q (.panic c) E F) (A:Region.wanted g (yE ops E)=nk) (D:∀F,RD P E F g v) (C:fX r F)
  (h:RG P n ops Q fuel (listed.setIfInBounds i nk) r (cQ E g.dst v) F):RG P n ops Q (fuel+1) listed r E F:=
 NN hi G H J hd B A (λw _=>by
  have st:Sat ⟨w.os,w.tape,w.output,λ_=>I⟩ w (λ_=>I):=⟨rfl,rfl,rfl,λb o h=>(by cases h),λb o h=>(by cases h)⟩
  exact qK _ _ _ _ (D _) st) C h
theorem Fs {v:Value} (h:RD P E F o v):Cy F (λw=>∃e F,Sat e w F/\RD P E F o v):=λe _ st=>⟨e,F,st,h⟩
end
structure Sl where
 qa5:Option Addr
 len:Nat
 cap:Nat
def Sl.v (s:Sl):Value:=.slice s.qa5 s.len s.cap
def Sl.nil:Sl:=⟨I,0,0⟩
theorem aJ {x:Int} (g: -9223372036854775808<=x) (h:x<=9223372036854775807:=by omega):IntKind.i64.wrap x=x:=by
 have e:IntKind.i64.wrap x=if x % 18446744073709551616≥9223372036854775808 then x % 18446744073709551616 - 18446744073709551616 else x % 18446744073709551616:=by unfold IntKind.wrap;simp [IntKind.bits,IntKind.signed]
 rw [e];split<;>omega
section
variable {P:Program} {F:PH} {E:En} {o:Oper}
theorem Tc {x:Operand} {v:Value} (h:o.op=.move x) (g:ev E x=v):RD P E F o v:=by simp only [RD,execOp,h,cJ,g]
theorem KR {x:Operand} {v:Value} (h:o.op=.assign x) (g:ev E x=v):RD P E F o v:=by simp only [RD,execOp,h,cJ,g]
theorem xI {c a b:Operand} {t:Bool} {v:Value} (h:o.op=.pick c a b) (g:ev E c=.bool t) (r:t=nk->ev E a=v) (w:t=mD->ev E b=v):RD P E F o v:=by
 cases t
 ·simp [RD,execOp,h,g,asBool,w]
 ·simp [RD,execOp,h,g,asBool,r]
abbrev qio:=Value->PH->Prop
abbrev Xh {α:Type} (z0:Nat->α->PH->Prop) (m:Nat):α->PH->Prop:=λa F=>∃m',m'<m/\z0 m' a F
abbrev V6 {α β:Type} (z0:Nat->α->β->PH->Prop) (m:Nat):α->β->PH->Prop:=λa b F=>∃m',m'<m/\z0 m' a b F
abbrev Zx {α β γ:Type} (z0:Nat->α->β->γ->PH->Prop) (m:Nat):α->β->γ->PH->Prop:=λa b c F=>∃m',m'<m/\z0 m' a b c F
theorem aaS {c a b:Operand} {v:Value} (r:o.op=.pick c a b) (g:ev E c=.bool mD) (w:ev E b=v:=by rfl):RD P E F o v:=xI r g (λh=>by cases h) (λ_=>w)
theorem aaT {c a b:Operand} {v:Value} (r:o.op=.pick c a b) (g:ev E c=.bool nk) (w:ev E a=v:=by rfl):RD P E F o v:=xI r g (λ_=>w) (λh=>by cases h)
theorem Cz {x:Operand} {a:Addr} (h:o.op=.nilCheck x) (g:ev E x=.pointer (V a)):RD P E F o (.pointer (V a)):=by simp [RD,execOp,h,g]
theorem qij {x:Operand} {f:FuncId} {a b:Array Value} (h:o.op=.nilCheck x) (g:ev E x=.func (.func f) a b):RD P E F o (.func (.func f) a b):=by simp [RD,execOp,h,g]
theorem uU {x:Operand} {vs:Array Value} {i:Nat} {v:Value} (h:o.op=.extract x i) (g:ev E x=.tuple vs) (hi:vs[i]? =V v):RD P E F o v:=by simp [RD,execOp,h,g,Instr.extract,hi]
theorem CA {g:Fn} {first captured:Array Operand} {a b:Array Value} (r:o.op=.makeFunc g first captured) (h:first.map (ev E)=a) (w:captured.map (ev E)=b):
  RD P E F o (.func g a b):=by
 simp [RD,execOp,r,h,w,Instr.makeFunc]
section
variable {x y:Operand} {t t':TypeId} {k:IntKind} {a b:Int}
theorem qfI (r:o.op=.binOp .add t x y t') (g:ev E x=.int k a) (h:ev E y=.int k b):RD P E F o (.int k (k.wrap (a+b))):=by simp [RD,execOp,r,g,h,binOp,eqGuard,Op.intArith]
theorem qfJ (r:o.op=.binOp .sub t x y t') (g:ev E x=.int k a) (h:ev E y=.int k b):RD P E F o (.int k (k.wrap (a - b))):=by simp [RD,execOp,r,g,h,binOp,eqGuard,Op.intArith]
theorem qfK (r:o.op=.binOp .mul t x y t') (g:ev E x=.int k a) (h:ev E y=.int k b):RD P E F o (.int k (k.wrap (a*b))):=by simp [RD,execOp,r,g,h,binOp,eqGuard,Op.intArith]
theorem QN (w:o.op=.binOp .quo t x y t') (g:ev E x=.int k a) (r:ev E y=.int k b) (h:b≠0):RD P E F o (.int k (k.wrap (a.tdiv b))):=by simp [RD,execOp,w,g,r,binOp,eqGuard,Op.intDiv,h]
theorem QO (w:o.op=.binOp .rem t x y t') (g:ev E x=.int k a) (r:ev E y=.int k b) (h:b≠0):RD P E F o (.int k (a.tmod b)):=by simp [RD,execOp,w,g,r,binOp,eqGuard,Op.intDiv,h]
theorem qfL (r:o.op=.binOp .and t x y t') (g:ev E x=.int k a) (h:ev E y=.int k b):RD P E F o (.int k (k.wrap ((BitVec.ofInt k.bits a &&& BitVec.ofInt k.bits b).toNat))):=by simp [RD,execOp,r,g,h,binOp,eqGuard,Op.intBits]
theorem aaB (r:o.op=.binOp .or t x y t') (g:ev E x=.int k a) (h:ev E y=.int k b):RD P E F o (.int k (k.wrap ((BitVec.ofInt k.bits a ||| BitVec.ofInt k.bits b).toNat))):=by simp [RD,execOp,r,g,h,binOp,eqGuard,Op.intBits]
theorem qfM (r:o.op=.binOp .xor t x y t') (g:ev E x=.int k a) (h:ev E y=.int k b):RD P E F o (.int k (k.wrap ((BitVec.ofInt k.bits a ^^^ BitVec.ofInt k.bits b).toNat))):=by simp [RD,execOp,r,g,h,binOp,eqGuard,Op.intBits]
theorem KU (r:o.op=.binOp .andNot t x y t') (g:ev E x=.int k a) (h:ev E y=.int k b):RD P E F o (.int k (k.wrap ((BitVec.ofInt k.bits a &&& ~~~ BitVec.ofInt k.bits b).toNat))):=by simp [RD,execOp,r,g,h,binOp,eqGuard,Op.intBits]
theorem qfN (r:o.op=.binOp .lss t x y t') (g:ev E x=.int k a) (h:ev E y=.int k b):RD P E F o (.bool (decide (a<b))):=by simp [RD,execOp,r,g,h,binOp,eqGuard,Op.intCmp]
theorem qfO (r:o.op=.binOp .leq t x y t') (g:ev E x=.int k a) (h:ev E y=.int k b):RD P E F o (.bool (decide (a<=b))):=by simp [RD,execOp,r,g,h,binOp,eqGuard,Op.intCmp]
theorem qfP (r:o.op=.binOp .gtr t x y t') (g:ev E x=.int k a) (h:ev E y=.int k b):RD P E F o (.bool (decide (b<a))):=by simp [RD,execOp,r,g,h,binOp,eqGuard,Op.intCmp]
theorem qfQ (r:o.op=.binOp .geq t x y t') (g:ev E x=.int k a) (h:ev E y=.int k b):RD P E F o (.bool (decide (b<=a))):=by simp [RD,execOp,r,g,h,binOp,eqGuard,Op.intCmp]
theorem qfR (r:o.op=.binOp .eql t x y t') (g:ev E x=.int k a) (h:ev E y=.int k b):RD P E F o (.bool (a==b)):=by simp [RD,execOp,r,g,h,binOp,eqGuard,Op.intCmp]
theorem qfS (r:o.op=.binOp .neq t x y t') (g:ev E x=.int k a) (h:ev E y=.int k b):RD P E F o (.bool (a !=b)):=by simp [RD,execOp,r,g,h,binOp,eqGuard,Op.intCmp]
theorem QP {k':IntKind} (w:o.op=.binOp .shl t x y t') (g:ev E x=.int k a) (r:ev E y=.int k' b) (h:0<=b):RD P E F o (.int k (k.wrap (a*2 ^ (min b.toNat k.bits)))):=by simp [RD,execOp,w,g,r,binOp,eqGuard,Op.shift,Int.not_lt.2 h]
theorem QQ {k':IntKind} (w:o.op=.binOp .shr t x y t') (g:ev E x=.int k a) (r:ev E y=.int k' b) (h:0<=b):RD P E F o (.int k (a.fdiv (2 ^ (min b.toNat k.bits)))):=by simp [RD,execOp,w,g,r,binOp,eqGuard,Op.shift,Int.not_lt.2 h]
theorem qfT (h:o.op=.unOp .neg t x) (g:ev E x=.int k a):RD P E F o (.int k (k.wrap (0 - a))):=by simp [RD,execOp,h,g,Op.unary,Op.intArith]
theorem KV {c:Bool} (h:o.op=.unOp .not t x) (g:ev E x=.bool c):RD P E F o (.bool !c):=by simp [RD,execOp,h,g,Op.unary]
theorem GI {k':IntKind} {d:TypeDesc} (r:o.op=.convert t t' x) (h:ev E x=.int k a) (g:P.underlying t=V d) (w:P.underlying t'=V (.int k')):RD P E F o (.int k' (k'.wrap a)):=by simp [RD,execOp,r,h,convert,am,az g,az w,Conv.intToInt]
theorem uV {m:Nat} {c d:Bool} (g:P.underlying t=V .bool):qX P (Op.equalIn (m+1) t (.bool c) (.bool d)) F (c==d):=by simp only [Op.equalIn,am];exact ⟨_,(az g _).2 rfl,rfl⟩
theorem uW {m:Nat} {p:Option Addr} {e':TypeId} (g:P.underlying t=V (.pointer e')):qX P (Op.equalIn (m+1) t (.pointer p) (.pointer I)) F p.isNone:=by simp only [Op.equalIn,am];refine ⟨_,(az g _).2 rfl,?_⟩;cases p<;>rfl
theorem bo {op:BinOp} {v u:Value} (h:(match v,u with| .nilIface,.nilIface=>mD| .agg _,.agg _=>mD|_,_=>nk)=nk):qX P (eqGuard op t x y v u) F ():=by unfold eqGuard;cases op<;>simp<;>(split<;>first|(simp at h;done)|rfl)
theorem jT {v u:Value} {r:Bool} (B:o.op=.binOp .eql t x y t') (h:ev E x=v) (w:ev E y=u) (g:qX P (eqGuard .eql t x y v u) F ()) (C:qX P (Op.equal t v u) F r)
  (A:binOp .eql t v u=(do pure (.bool (<- Op.equal t v u)))):RD P E F o (.bool r):=by
 simp only [RD,execOp,B,h,w,am];refine ⟨.bool r,⟨(),g,?_⟩,rfl⟩;rw [A,am];exact ⟨r,C,rfl⟩
theorem jU {v u:Value} {r:Bool} (B:o.op=.binOp .neq t x y t') (h:ev E x=v) (w:ev E y=u) (g:qX P (eqGuard .neq t x y v u) F ()) (C:qX P (Op.equal t v u) F r)
  (A:binOp .neq t v u=(do pure (.bool (!(<- Op.equal t v u))))):RD P E F o (.bool (!r)):=by
 simp only [RD,execOp,B,h,w,am];refine ⟨.bool (!r),⟨(),g,?_⟩,rfl⟩;rw [A,am];exact ⟨r,C,rfl⟩
theorem Td {c d:Bool} (w:o.op=.binOp .eql t x y t') (h:ev E x=.bool c) (r:ev E y=.bool d) (g:P.underlying t=V .bool):RD P E F o (.bool (c==d)):=
 jT w h r (bo rfl) (uV g) rfl
theorem Te {c d:Bool} (w:o.op=.binOp .neq t x y t') (h:ev E x=.bool c) (r:ev E y=.bool d) (g:P.underlying t=V .bool):RD P E F o (.bool (!(c==d))):=
 jU w h r (bo rfl) (uV g) rfl
theorem zY {p:Option Addr} {e':TypeId} (w:o.op=.binOp .eql t x y t') (h:ev E x=.pointer p) (r:ev E y=.pointer I) (g:P.underlying t=V (.pointer e')):RD P E F o (.bool p.isNone):=
 jT w h r (bo rfl) (uW g) rfl
theorem zZ {p:Option Addr} {e':TypeId} (w:o.op=.binOp .neq t x y t') (h:ev E x=.pointer p) (r:ev E y=.pointer I) (g:P.underlying t=V (.pointer e')):RD P E F o (.bool (!p.isNone)):=
 jU w h r (bo rfl) (uW g) rfl
theorem tB {m:Nat} {s:Sl} {e':TypeId} (g:P.underlying t=V (.slice e')):qX P (Op.equalIn (m+1) t s.v (.slice I 0 0)) F s.qa5.isNone:=by simp only [Op.equalIn,am];refine ⟨_,(az g _).2 rfl,?_⟩;obtain ⟨b,l,c⟩:=s;cases b<;>rfl
theorem CB {s:Sl} {e':TypeId} (w:o.op=.binOp .eql t x y t') (h:ev E x=s.v) (r:ev E y=.slice I 0 0) (g:P.underlying t=V (.slice e')):RD P E F o (.bool s.qa5.isNone):=
 jT w h r (bo rfl) (tB g) rfl
theorem CC {s:Sl} {e':TypeId} (w:o.op=.binOp .neq t x y t') (h:ev E x=s.v) (r:ev E y=.slice I 0 0) (g:P.underlying t=V (.slice e')):RD P E F o (.bool (!s.qa5.isNone)):=
 jU w h r (bo rfl) (tB g) rfl
theorem Tf {c d:ByteArray} (r:o.op=.binOp .eql t x y t') (g:ev E x=.string c) (h:ev E y=.string d):RD P E F o (.bool (c.toList==d.toList)):=by simp [RD,execOp,r,g,h,binOp,eqGuard,Op.stringOp]
theorem Th {c d:ByteArray} (r:o.op=.binOp .neq t x y t') (g:ev E x=.string c) (h:ev E y=.string d):RD P E F o (.bool (!(c.toList==d.toList))):=by simp [RD,execOp,r,g,h,binOp,eqGuard,Op.stringOp]
end
section
variable {x y:Operand} {t t':TypeId} {k:IntKind} {a b:Int}
theorem NQ {s:Sl} {e':TypeId} (r:o.op=.call {callee:=.builtin .len,args:= #[x],argTypes:= #[t]}) (h:ev E x=s.v) (g:P.underlying t=V (.slice e')):RD P E F o (.int .i64 s.len):=by simp [RD,execOp,r,resolve,invoke,builtin,h,Sl.v,Builtin.len_,am,az g,goInt]
theorem NR {s:Sl} {e':TypeId} (r:o.op=.call {callee:=.builtin .cap,args:= #[x],argTypes:= #[t]}) (h:ev E x=s.v) (g:P.underlying t=V (.slice e')):RD P E F o (.int .i64 s.cap):=by simp [RD,execOp,r,resolve,invoke,builtin,h,Sl.v,Builtin.cap_,am,az g,goInt]
theorem KW {s:ByteArray} (r:o.op=.call {callee:=.builtin .len,args:= #[x],argTypes:= #[t]}) (h:ev E x=.string s) (g:P.underlying t=V .string):RD P E F o (.int .i64 s.size):=by simp [RD,execOp,r,resolve,invoke,builtin,h,Builtin.len_,am,az g,goInt]
theorem Ti {h:Array TypeId} (w:o.op=.call {callee:=.builtin .max,args:= #[x,y],argTypes:=h}) (g:ev E x=.int k a) (r:ev E y=.int k b):RD P E F o (.int k (max a b)):=by
 have:(if b>a then b else a)=max a b:=by omega
 simp [RD,execOp,w,resolve,invoke,builtin,g,r,Builtin.max_,Builtin.max2];omega
theorem Tj {h:Array TypeId} (w:o.op=.call {callee:=.builtin .min,args:= #[x,y],argTypes:=h}) (g:ev E x=.int k a) (r:ev E y=.int k b):RD P E F o (.int k (min a b)):=by simp [RD,execOp,w,resolve,invoke,builtin,g,r,Builtin.min_,Builtin.min2];omega
theorem Tm {g:Array TypeId} {z:Operand} {c:Int} (A:o.op=.call {callee:=.builtin .max,args:= #[x,y,z],argTypes:=g}) (h:ev E x=.int k a) (r:ev E y=.int k b) (w:ev E z=.int k c):RD P E F o (.int k (max (max a b) c)):=by simp [RD,execOp,A,resolve,invoke,builtin,h,r,w,Builtin.max_,Builtin.max2];omega
theorem Tn {g:Array TypeId} {z:Operand} {c:Int} (A:o.op=.call {callee:=.builtin .min,args:= #[x,y,z],argTypes:=g}) (h:ev E x=.int k a) (r:ev E y=.int k b) (w:ev E z=.int k c):RD P E F o (.int k (min (min a b) c)):=by simp [RD,execOp,A,resolve,invoke,builtin,h,r,w,Builtin.min_,Builtin.min2];omega
end
def lA (d:TypeDesc):Bool:=match d with| .struct _| .array _ _=>nk|_=>mD
theorem dr {t:Nat} {d:TypeDesc} (h:P.underlying t=V d) (v:Bool):qX P (isAgg t) F v↔lA d=v:=by unfold isAgg;simp only [am,az h,exists_eq_left'];cases d<;>simp [lA]
def PH.row (F:PH) (a:Addr) (cs:Array Value):Prop:=∀i,(h:i<cs.size)->F.cell (a.add i)=V cs[i]
theorem qg3 {a:Addr}:∀(n i:Nat) (g cs:Array Value),cs.size=i+n->g.toList=cs.toList.take i->F.row a cs->qX P (loadCellsFrom a i n g) F cs:=by
 intro n;induction n with
 |zero=>intro i g cs w h _;show g=cs;apply Array.ext';rw [h,zh];simp only [zQ];omega
 |succ n ih=>
  intro i g cs w h r;have hi:i<cs.size:=by omega
  simp only [loadCellsFrom,am];refine ⟨cs[i],⟨_,r i hi,rfl⟩,?_⟩;refine ih (i+1) _ cs (by omega) ?_ r;rw [Array.toList_push,h,W4 (by simpa using hi)];simp
theorem fc {a:Addr} {cs:Array Value} (g:F.row a cs):qX P (loadCells a cs.size) F cs:=
 qg3 cs.size 0 #[] cs (by omega) (by simp) g
theorem NS {x:Operand} {t:TypeId} {d:TypeDesc} {a:Addr} {v:Value} (A:o.op=.load t x) (h:ev E x=.pointer (V a)) (g:P.underlying t=V d) (r:lA d=mD) (w:F.cell a=V v):
  RD P E F o v:=by
 simp [RD,execOp,A,h,Instr.loadAt,Instr.sureAddr,loadVar,am,dr g,r,load,qX,w]
theorem NT {x:Operand} {t:TypeId} {d:TypeDesc} {a:Addr} {cs:Array Value} {b:Nat} (B:o.op=.load t x) (h:ev E x=.pointer (V a)) (g:P.underlying t=V d) (r:lA d=nk)
  (A:vy P t=V (cs.size,b)) (w:F.row a cs):RD P E F o (.agg cs):=by
 have:=fc (P:=P) w;simp [RD,execOp,B,h,Instr.loadAt,Instr.sureAddr,loadVar,am,dr g,r,bu A,this]
theorem qhi {a:Addr} {f:Field} {s b:Nat} (h:vy P f.type=V (s,b)) (g:s≠0) (v:Addr):qX P (fieldPlace a f) F v↔a.add f.offset=v:=by simp [fieldPlace,am,bu h,g]
theorem qh9 {x:Operand} {t i:Nat} {a:Addr} {fs:Array Field} {f:Field} {s b:Nat} (B:o.op=.fieldAddr t x i) (h:ev E x=.pointer (V a)) (g:P.underlying t=V (.struct fs))
  (r:fs[i]? =V f) (A:vy P f.type=V (s,b)) (w:s≠0):RD P E F o (.pointer (V (a.add f.offset))):=by
 simp [RD,execOp,B,h,Instr.fieldAt,Instr.sureAddr,am,az g,r,qhi A w]
theorem uX {t off:Nat} {d:TypeDesc} {cs:Array Value} {v:Value} (g:P.underlying t=V d) (r:lA d=mD) (h:cs[off]? =V v):qX P (part t cs off) F v:=by simp [part,am,dr g,r,h]
theorem GJ {t off s b:Nat} {d:TypeDesc} {cs:Array Value} (g:P.underlying t=V d) (r:lA d=nk) (h:vy P t=V (s,b)):qX P (part t cs off) F (.agg (cs.extract off (off+s))):=by simp [part,am,dr g,r,bu h]
theorem KX {x:Operand} {t i:Nat} {cs:Array Value} {fs:Array Field} {f:Field} {d:TypeDesc} {v:Value} (C:o.op=.field t x i) (h:ev E x=.agg cs) (g:P.underlying t=V (.struct fs))
  (r:fs[i]? =V f) (B:P.underlying f.type=V d) (A:lA d=mD) (w:cs[f.offset]? =V v):RD P E F o v:=by
 simp only [RD,execOp,C,h,Instr.field,am,az g,asAgg,cJ];exact ⟨v,⟨_,rfl,by simp only [r,am,cJ,exists_eq_left'];exact uX B A w⟩,rfl⟩
theorem KY {x:Operand} {t i s b:Nat} {cs:Array Value} {fs:Array Field} {f:Field} {d:TypeDesc} (C:o.op=.field t x i) (h:ev E x=.agg cs) (g:P.underlying t=V (.struct fs))
  (r:fs[i]? =V f) (B:P.underlying f.type=V d) (A:lA d=nk) (w:vy P f.type=V (s,b)):RD P E F o (.agg (cs.extract f.offset (f.offset+s))):=by
 simp only [RD,execOp,C,h,Instr.field,am,az g,asAgg,cJ];exact ⟨_,⟨_,rfl,by simp only [r,am,cJ,exists_eq_left'];exact GJ B A w⟩,rfl⟩
theorem qhg {x y:Operand} {t e' s b:Nat} {qa5:Addr} {len cap:Nat} {k:IntKind} {i:Int} (C:o.op=.indexAddr t x y) (h:ev E x=.slice (V qa5) len cap) (w:ev E y=.int k i)
  (g:P.underlying t=V (.slice e')) (r:vy P e'=V (s,b)) (B:0<=i) (A:i<len):RD P E F o (.pointer (V (qa5.add (i.toNat*s)))):=by
 simp [RD,execOp,C,h,w,Instr.indexAt,asIntOf,am,az g,B,A,bu r]
theorem qhh {x y:Operand} {t e' s b n:Nat} {qa5:Addr} {k:IntKind} {i:Int} (C:o.op=.indexAddr t x y) (h:ev E x=.pointer (V qa5)) (w:ev E y=.int k i)
  (g:P.underlying t=V (.array n e')) (r:vy P e'=V (s,b)) (B:0<=i) (A:i<n):RD P E F o (.pointer (V (qa5.add (i.toNat*s)))):=by
 simp [RD,execOp,C,h,w,Instr.indexAt,asIntOf,am,az g,B,A,bu r,Instr.sureAddr]
theorem CD {x y:Operand} {t:Nat} {st:ByteArray} {k:IntKind} {i:Int} (B:o.op=.index t x y) (r:ev E x=.string st) (w:ev E y=.int k i)
  (h:P.underlying t=V .string) (A:0<=i) (C:i<st.size):RD P E F o (.int .u8 (st[i.toNat]'(by omega)).toNat):=by
 have g:i.toNat<st.size:=by omega
 have:st[i.toNat]? =V (st[i.toNat]' g):=getElem?_pos st i.toNat g;simp [RD,execOp,B,r,w,Instr.index,asIntOf,am,az h,A,this]
theorem qia {x y:Operand} {t e' n s b:Nat} {cs:Array Value} {k:IntKind} {i:Int} {d:TypeDesc} {v:Value} (G:o.op=.index t x y) (r:ev E x=.agg cs) (A:ev E y=.int k i)
  (h:P.underlying t=V (.array n e')) (w:vy P e'=V (s,b)) (hd:P.underlying e'=V d) (g:lA d=mD) (D:0<=i) (C:i<n) (B:cs[i.toNat*s]? =V v):RD P E F o v:=by
 simp only [RD,execOp,G,r,A,Instr.index,asIntOf,am,az h,cJ];refine ⟨v,⟨(k,i),rfl,.array n e',rfl,?_⟩,rfl⟩;simp only [D,C,and_self,if_true,am,bu w];exact ⟨_,rfl,uX hd g B⟩
theorem cw {k:IntKind} {i:Int} {y:Nat} {c:BoundsCode} (g:0<=i) (h:i<=y) (v:Nat):qX P (Instr.sliceBound (.int k i) y c) F v↔i.toNat=v:=by simp [Instr.sliceBound,asIntOf,g,h]
def dt (v:Option Value) (dflt:Nat) (r:Nat):Prop:=(v=I/\r=dflt)\/∃k i,v=V (.int k i)/\0<=i/\i.toNat=r
theorem eR {sl:Bool} {len cap:Nat} {lo hi:Option Value} {l h:Nat} (C:dt hi len h) (D:dt lo 0 l) (G:l<=h) (H:h<=cap) (v:Nat×Nat×Nat):
  qX P (Instr.sliceBounds sl len cap lo hi I) F v↔(l,h,cap)=v:=by
 rcases C with ⟨rfl,rfl⟩|⟨k,i,rfl,r,rfl⟩<;>rcases D with ⟨rfl,rfl⟩|⟨B,j,rfl,g,rfl⟩
 ·simp [Instr.sliceBounds]
 ·have A:∀c x,qX P (Instr.sliceBound (.int B j) h c) F x↔j.toNat=x:=λc x=>cw g (by omega) x;cases sl<;>simp [Instr.sliceBounds,A]
 ·have w:∀c x,qX P (Instr.sliceBound (.int k i) cap c) F x↔i.toNat=x:=λc x=>cw r (by omega) x;cases sl<;>simp [Instr.sliceBounds,w]
 ·have w:∀c x,qX P (Instr.sliceBound (.int k i) cap c) F x↔i.toNat=x:=λc x=>cw r (by omega) x;have A:∀c x,qX P (Instr.sliceBound (.int B j) i.toNat c) F x↔j.toNat=x:=λc x=>cw g (by omega) x;cases sl<;>simp [Instr.sliceBounds,am,w,A]
theorem qg4 {sl:Bool} {len cap:Nat} {lo:Option Value} {k k':IntKind} {i m:Int} {l:Nat} (G:dt lo 0 l) (C:0<=i) (h:0<=m) (H:l<=i.toNat) (J:i<=m) (D:m<=cap) (v:Nat×Nat×Nat):
  qX P (Instr.sliceBounds sl len cap lo (V (.int k i)) (V (.int k' m))) F v↔(l,i.toNat,m.toNat)=v:=by
 have w:∀c x,qX P (Instr.sliceBound (.int k' m) cap c) F x↔m.toNat=x:=λc x=>cw h D x;have A:∀c x,qX P (Instr.sliceBound (.int k i) m.toNat c) F x↔i.toNat=x:=λc x=>cw C (by omega) x;rcases G with ⟨rfl,rfl⟩|⟨r,j,rfl,g,rfl⟩
 ·cases sl<;>simp [Instr.sliceBounds,am,w,A]
 ·have B:∀c x,qX P (Instr.sliceBound (.int r j) i.toNat c) F x↔j.toNat=x:=λc x=>cw g (by omega) x;cases sl<;>simp [Instr.sliceBounds,am,w,A,B]
def Sl.cut (s:Sl) (size l h m:Nat):Sl:=⟨if m=l then s.qa5 else s.qa5.map (·.add (l*size)),h - l,m - l⟩
theorem GK {x:Operand} {lo hi:Option Operand} {t e' size b:Nat} {s:Sl} {l h:Nat} (A:o.op=.slice t x lo hi I) (r:ev E x=s.v) (g:P.underlying t=V (.slice e')) (w:vy P e'=V (size,b))
  (G:dt (lo.map (ev E)) 0 l) (B:dt (hi.map (ev E)) s.len h) (D:l<=h) (C:h<=s.cap):RD P E F o (s.cut size l h s.cap).v:=by
 have:=eR (P:=P) (F:=F) (sl:=nk) B G D C;simp [RD,execOp,A,r,Instr.sliceAt,Instr.slice,Sl.v,Sl.cut,am,az g,bu w,this]
theorem CE {x hi r:Operand} {lo:Option Operand} {t e' size b:Nat} {s:Sl} {l:Nat} {k k':IntKind} {i m:Int} (L:o.op=.slice t x lo (V hi) (V r)) (B:ev E x=s.v) (w:P.underlying t=V (.slice e')) (C:vy P e'=V (size,b))
  (D:dt (lo.map (ev E)) 0 l) (h:ev E hi=.int k i) (A:ev E r=.int k' m) (H:0<=i) (g:0<=m) (K:l<=i.toNat) (J:i<=m) (G:m<=s.cap):RD P E F o (s.cut size l i.toNat m.toNat).v:=by
 have:=qg4 (P:=P) (F:=F) (sl:=nk) (len:=s.len) (k:=k) (k':=k') D H g K J G;simp [RD,execOp,L,B,Instr.sliceAt,Instr.slice,Sl.v,Sl.cut,am,az w,bu C,h,A,this]
theorem uY {x:Operand} {lo hi:Option Operand} {t e' size b n:Nat} {a:Addr} {l h:Nat} (A:o.op=.slice t x lo hi I) (r:ev E x=.pointer (V a)) (g:P.underlying t=V (.array n e')) (w:vy P e'=V (size,b))
  (G:dt (lo.map (ev E)) 0 l) (B:dt (hi.map (ev E)) n h) (D:l<=h) (C:h<=n):RD P E F o (Sl.cut ⟨V a,n,n⟩ size l h n).v:=by
 have:=eR (P:=P) (F:=F) (sl:=mD) B G D C;simp [RD,execOp,A,r,Instr.sliceAt,Instr.sureAddr,Sl.v,Sl.cut,am,az g,bu w,this];split<;>rfl
theorem CF {x:Operand} {lo hi:Option Operand} {t:Nat} {s:ByteArray} {l h:Nat} (w:o.op=.slice t x lo hi I) (r:ev E x=.string s) (g:P.underlying t=V .string)
  (D:dt (lo.map (ev E)) 0 l) (A:dt (hi.map (ev E)) s.size h) (C:l<=h) (B:h<=s.size):RD P E F o (.string (s.extract l h)):=by
 have:=eR (P:=P) (F:=F) (sl:=mD) A D C B;simp [RD,execOp,w,r,Instr.sliceAt,Instr.slice,am,az g,this]
end
section
variable {P:Program} {F:PH} {E:En} {o:Oper} {K:En->PH->Prop}
def nq (P:Program) (fs:Array Field):Array (Nat×Nat):=fs.map λf=>(f.offset,P.cellsOf f.type)
def ju (P:Program) (fs:Array Field):Bool:=fs.all λf=>(P.info? f.type).isSome
theorem qib {t:Nat} (h:(P.info? t).isSome=nk):qX P (sizeOf t) F (P.cellsOf t):=by
 cases hi:P.info? t with
 |none=>simp [hi] at h
 |some i=>
  have:vy P t=V (i.size,i.bytes):=by simp [vy,hi]
  rw [bu this];simp [Program.cellsOf,hi]
theorem kI {α r:Type} (f:α->Sem r) (g:α->r):∀(l:List α),(∀x∈l,qX P (f x) F (g x))->qX P (l.mapM f) F (l.map g)
 |[],_=>by simp
 |x::l,h=>by have w:=h x (XA ..);have B:=kI f g l λy A=>h y (Vz _ A);simp only [List.mapM_cons,am,xA];exact ⟨_,w,_,B,rfl⟩
theorem CG {fs:Array Field} (h:ju P fs=nk):qX P (fs.mapM λf=>do pure (f.offset,<- sizeOf f.type)) F (nq P fs):=by
 have g:∀f∈fs.toList,(P.info? f.type).isSome=nk:=by intro f r;have:=Array.all_eq_true_iff_forall_mem.1 h f (by simpa using r);exact this
 rw [Array.mapM_eq_mapM_toList];have:=kI (P:=P) (F:=F) (λf:Field=>(do pure (f.offset,<- sizeOf f.type):Sem (Nat×Nat))) (λf=>(f.offset,P.cellsOf f.type)) fs.toList
  (λf r=>by simp only [am];exact ⟨_,qib (g f r),rfl⟩)
 refine (NP _ _ _ _).2 ⟨_,this,?_⟩;apply Array.ext';simp [nq]
theorem qhr {t:Nat} {g:Array (Nat×Operand)} {fs:Array Field} {z:Value} {vs:List (Nat×Value)} {cells:Array Value} (C:o.op=.build t g) (h:P.underlying t=V (.struct fs)) (A:bv P t=V z)
  (w:ju P fs=nk) (r:(g.map λ(i,x)=>(i,ev E x)).toList=vs) (B:Instr.fill (λi=>(nq P fs)[i]?) z.cells vs=V cells):RD P E F o (.agg cells):=by
 simp only [RD,execOp,C,am,Instr.build,cJ];refine ⟨_,⟨_,(gH A _).2 rfl,_,(az h _).2 rfl,?_⟩,rfl⟩;simp only [am];refine ⟨_,by have:=CG (P:=P) (F:=F) w;simpa [am] using this,?_⟩;rw [r,B];rfl
theorem qhO {t n e' s b:Nat} {g:Array (Nat×Operand)} {z:Value} {vs:List (Nat×Value)} {cells:Array Value} (C:o.op=.build t g) (h:P.underlying t=V (.array n e')) (A:bv P t=V z)
  (r:vy P e'=V (s,b)) (w:(g.map λ(i,x)=>(i,ev E x)).toList=vs) (B:Instr.fill (λi=>V (i*s,s)) z.cells vs=V cells):RD P E F o (.agg cells):=by
 simp only [RD,execOp,C,am,Instr.build,cJ];refine ⟨_,⟨_,(gH A _).2 rfl,_,(az h _).2 rfl,?_⟩,rfl⟩;simp only [am,bu r,exists_eq_left'];rw [w,B];rfl
theorem NU {t:Nat} {z:Value} (g:o.op=.alloc t) (r:bv P t=V z) (h:∀b,F b=I->K (cQ E o.dst (.pointer (V ⟨b,0,I⟩))) (F.set b (Y z.cells t))):
  aG P (execOp (ev E) o) F (bJ P K o E):=by
 simp only [execOp,g,Instr.alloc,aD,eA r,aL,bJ,newVar,newRow,newObj];exact h
theorem KZ {t:Nat} {x:Operand} {v:Value} (r:o.op=.box t x) (g:ev E x=v) (h:∀b,F b=I->K (cQ E o.dst (.pointer (V ⟨b,0,I⟩))) (F.set b (Y v.cells t))):
  aG P (execOp (ev E) o) F (bJ P K o E):=by
 simp only [execOp,r,Instr.box,aD,aL,bJ,newVar,newRow,newObj,g];exact h
theorem iL {t e' s b n:Nat} {g:Array (Nat×Operand)} {z:Value} {vs:List (Nat×Value)} {cells:Array Value} (J:o.op=.buildSlice t n g) (D:P.underlying t=V (.slice e')) (G:vy P e'=V (s,b))
  (L:n*s<=16777216) (H:bv P e'=V z) (A:(g.map λ(i,x)=>(i,ev E x)).toList=vs) (C:Instr.fill (λi=>V (i*s,s)) (Builtin.zeroCells z.cells n) vs=V cells) (B:n*s=n*z.cells.size)
  (h:∀b,F b=I->K (cQ E o.dst (.slice (V ⟨b,0,I⟩) n n)) (F.set b (Y cells e'))):
  aG P (execOp (ev E) o) F (bJ P K o E):=by
 simp only [execOp,J,Instr.buildSlice,aD,bW D,fm G];rw [Υ (by omega)];by_cases w:n*s=0
 ·have r:(Array.range (n*s)).map (λi=>(#[]:Array Value)[i % (#[]:Array Value).size]!)=Builtin.zeroCells z.cells n:=by simp [Builtin.zeroCells,w,<- B]
  rw [Χ w];simp only [aD,aL];rw [r,A,C];simp only [aD,aL,newRow,newObj,bJ];exact h
 ·have r:(Array.range (n*s)).map (λi=>z.cells[i % z.cells.size]!)=Builtin.zeroCells z.cells n:=by simp [Builtin.zeroCells,B]
  rw [Υ w];simp only [aD,eA H,aL];rw [r,A,C];simp only [aD,aL,newRow,newObj,bJ];exact h
def wr (c:Array Value) (off:Nat):List Value->Array Value
 |[]=>c
 |v::vs=>wr (c.setIfInBounds off v) (off+1) vs
theorem dJ (vs:List Value):∀(c:Array Value) (off:Nat),(wr c off vs).size=c.size:=by
 induction vs with
 |nil=>intro c off;rfl
 |cons v vs ih=>intro c off;simp [wr,ih]
theorem xK (vs:List Value):∀(c:Array Value) (off i:Nat),off+vs.length<=c.size->(wr c off vs)[i]? =if off<=i/\i<off+vs.length then vs[i - off]? else c[i]? :=by
 induction vs with
 |nil=>intro c off i _;simp [wr];omega
 |cons v vs ih=>
  intro c off i h;simp only [wg] at h;rw [wr,ih _ _ _ (by simp;omega),Array.getElem?_setIfInBounds];by_cases g:off=i
  ·subst g;rw [Υ (by omega),Χ rfl,Χ (by omega),Χ (by simp)];simp
  ·by_cases r:off+1<=i/\i<off+1+vs.length
   ·rw [Χ r,Χ (by simp;omega)];rw [show i - off=(i - (off+1))+1 by omega,Vy]
   ·rw [Υ r,Υ g,Υ (by simp;omega)]
theorem set_set (F:PH) (b:Nat) (o o':Obj):(F.set b o).set b o'=F.set b o':=by funext x;unfold PH.set;split<;>rfl
theorem NW (F:PH) (b:Nat) (o:Obj):(F.set b o) b=V o:=by simp [PH.set]
theorem CH (F:PH) {b x:Nat} (o:Obj) (h:x≠b):(F.set b o) x=F x:=by simp [PH.set,h]
theorem fu {e':TypeId}:∀(vs:List Value) (i:Nat) (F:PH) (a:Addr) (c:Array Value) (Q:Unit->PH->Prop),a.spot=I->F a.block=V (Y c e' (0,0))->a.off+i+vs.length<=c.size->
  (∀v∈vs,ak v)->vs≠[]->Q () (F.set a.block (Y (wr c (a.off+i) vs) e'))->aG P (storeCells a vs i) F Q:=by
 intro vs;induction vs with
 |nil=>intro i F a c Q _ _ _ _ h;exact absurd rfl h
 |cons v vs ih=>
  intro i F a c Q B H D w _ C;simp only [wg] at D;have g:(a.add i).off=a.off+i:=by unfold nV;split<;>simp_all
  have r:(a.add i).block=a.block:=by unfold nV;split<;>rfl
  have A:(a.add i).spot=I:=by unfold nV;split<;>simp_all
  simp only [storeCells,aD,store,aG];refine ⟨w v (XA ..),c,e',(0,0),by rw [r];exact H,A,by rw [g];omega,by simp [Yz],?_⟩;rw [r,g];cases vs with
  |nil=>exact C
  |cons u us=>refine ih (i+1) _ a (c.setIfInBounds (a.off+i) v) Q B (NW _ _ _) (by simp;simp at D;omega) (λx G=>w x (Vz _ G)) (by simp) ?_;rw [set_set];exact C
theorem K9 {t:Nat} {x y:Operand} {a:Addr} {v:Value} {c:Array Value} {e' s b:Nat} (D:o.op=.store t x y) (B:ev E x=.pointer (V a)) (C:ev E y=v) (w:vy P t=V (s,b)) (A:v.cells= #[v]) (G:s=1) (r:ak v)
  (g:a.spot=I) (H:F a.block=V (Y c e' (0,0))) (J:a.off<c.size) (h:K (cQ E o.dst undef) (F.set a.block (Y (c.setIfInBounds a.off v) e'))):
  aG P (execOp (ev E) o) F (bJ P K o E):=by
 subst G;simp only [execOp,D,B,C,Instr.storeAt,Instr.sureAddr,aD,aL,storeVar,fm w,A];simp only [XB,wg,W9,ne_eq,x9,not_true_eq_false,if_false];refine fu [v] 0 F a c _ g H (by simp;omega) (by simpa using r) (by simp) ?_;exact h
theorem La {t:Nat} {x y:Operand} {a:Addr} {vs c:Array Value} {e' s b:Nat} (J:o.op=.store t x y) (A:ev E x=.pointer (V a)) (C:ev E y=.agg vs) (w:vy P t=V (s,b)) (G:vs.size=s) (r:∀v∈vs.toList,ak v)
  (B:vs.toList≠[]) (g:a.spot=I) (H:F a.block=V (Y c e' (0,0))) (D:a.off+s<=c.size) (h:K (cQ E o.dst undef) (F.set a.block (Y (wr c a.off vs.toList) e'))):
  aG P (execOp (ev E) o) F (bJ P K o E):=by
 subst G;simp only [execOp,J,A,C,Instr.storeAt,Instr.sureAddr,aD,aL,storeVar,fm w,Value.cells];simp only [ne_eq,not_true_eq_false,if_false];exact fu vs.toList 0 F a c _ g H (by simpa using D) r B h
def aF (P:Program) (f:FuncId):Bool:=match P.funcs[f]? with|some fn=> !(fn.name== "runtime.NumGoroutine") && fn.body.isSome|none=>mD
theorem kJ {f:FuncId} {args:Array Value} {Q:Next->PH->Prop} (g:aF P f=nk) (h:Q (.enter f args) F):aG P (callFunc f args) F Q:=by
 unfold aF at g;cases hf:P.funcs[f]? with
 |none=>simp [hf] at g
 |some r=>
  simp only [hf,VT,Bool.not_eq_true'] at g;simp only [callFunc,aD,program,aG,hf,g.1];have:r.body.isNone=mD:=by cases hb:r.body<;>simp_all
  simp only [this,VQ,if_false,aL];exact h
theorem To {f:FuncId} {args:Array Operand} {g:Array TypeId} {vs:Array Value} (B:o.op=.call {callee:=.value (.func f),args:=args,argTypes:=g}) (w:aF P f=nk) (r:args.map (ev E)=vs)
  (h:aj P f vs F λv A=>K (cQ E o.dst v) A):aG P (execOp (ev E) o) F (bJ P K o E):=by
 simp only [execOp,B,resolve,ev,Deferred.ofValue,aD,aL,invoke];refine kJ w ?_;rw [show args.map (λx=>ev E x)=vs from r];simpa [bJ] using h
theorem Ft {f:FuncId} {g:Operand} {args:Array Operand} {r:Array TypeId} {vs first captured:Array Value} (D:o.op=.call {callee:=.value g,args:=args,argTypes:=r}) (w:ev E g=.func (.func f) first captured) (B:aF P f=nk) (A:args.map (ev E)=vs)
  (h:aj P f (first++vs++captured) F λv C=>K (cQ E o.dst v) C):aG P (execOp (ev E) o) F (bJ P K o E):=by
 simp only [execOp,D,resolve,w,Deferred.ofValue,aD,aL,invoke];refine kJ B ?_;rw [show args.map (λx=>ev E x)=vs from A];exact h
theorem NX {f:FuncId} {g:Operand} {args:Array Operand} {r:Array TypeId} {vs first captured:Array Value} (A:o.op=.defer {callee:=.value g,args:=args,argTypes:=r}) (w:ev E g=.func (.func f) first captured) (B:args.map (ev E)=vs)
  (hi:Ct P ⟨.fn (.func f) captured,first++vs⟩) (h:K (cQ E o.dst undef) F):aG P (execOp (ev E) o) F (bJ P K o E):=by
 simp only [execOp,A,resolve,w,Deferred.ofValue,aD,aL];rw [show args.map (λx=>ev E x)=vs from B];exact ⟨hi,h⟩
theorem Lc {x y:Operand} {g:Array TypeId} {s u:Value} (B:o.op=.call {callee:=.builtin .append,args:= #[x,y],argTypes:=g}) (r:ev E x=s) (w:ev E y=u)
  (h:aG P (Builtin.append_ g o.type #[s,u]) F λv A=>K (cQ E o.dst v) A):aG P (execOp (ev E) o) F (bJ P K o E):=by
 simp [execOp,B,resolve,r,w,invoke,builtin,bJ];exact h
theorem Tp {x y:Operand} {g:Array TypeId} {s u:Value} (B:o.op=.call {callee:=.builtin .copy,args:= #[x,y],argTypes:=g}) (r:ev E x=s) (w:ev E y=u)
  (h:aG P (Builtin.copy_ g o.type #[s,u]) F λv A=>K (cQ E o.dst v) A):aG P (execOp (ev E) o) F (bJ P K o E):=by
 simp [execOp,B,resolve,r,w,invoke,builtin,bJ];exact h
theorem Aa {t:TypeId} {x y:Operand} {u v:Value} (g:o.op=.makeSlice t x y) (r:ev E x=u) (w:ev E y=v)
  (h:aG P (Instr.makeSlice t u v) F λv A=>K (cQ E o.dst v) A):aG P (execOp (ev E) o) F (bJ P K o E):=by
 simp [execOp,g,r,w,bJ];exact h
theorem CI {t:TypeId} (g:o.op=.makeMap t I) (h:∀b,F b=I->K (cQ E o.dst (.map (V b))) (F.set b (.map #[] 0))):
  aG P (execOp (ev E) o) F (bJ P K o E):=by
 simp only [execOp,g,Instr.makeMap,Option.map_none,newObj,aD,aL,aG,bJ];exact h
theorem oY {t:TypeId} {x y z:Operand} {u v q:Value} (B:o.op=.mapUpdate t x y z) (g:ev E x=u) (r:ev E y=v) (A:ev E z=q)
  (h:aG P (Instr.mapUpdate t u v q) F λ_ w=>K (cQ E o.dst undef) w):aG P (execOp (ev E) o) F (bJ P K o E):=by
 simp only [execOp,B,g,r,A,aD,aL,bJ];exact h
theorem Ab {t:TypeId} {x y:Operand} {u v r:Value} {ok:Bool} (A:o.op=.lookup t x y ok) (g:ev E x=u) (w:ev E y=v) (h:qX P (Instr.lookup t u v ok) F r):RD P E F o r:=by simp only [RD,execOp,A,g,w,am,cJ];exact ⟨r,h,rfl⟩
end
def xJ (F:PH) (K:PH->Prop):Prop:=K F
theorem Yb {F:PH} {K:PH->Prop} (h:xJ F K):K F:=h
theorem tR {F:PH} {K:PH->Prop} (h:K F):xJ F K:=h
section
variable {P:Program} {n:Nat} {Q:Exit->En->PH->Prop} {E:En} {F:PH} {ops:Array Oper} {l:List Oper} {d:Tmp} {op:Op} {ty:TypeId} {pos:String} {aft:Array Edge} {v:Value} {gd:Option (Nat×Bool)}
theorem Ac {t:Nat} (h:E t=v):upd E t v=E:=by
 funext x;unfold upd;by_cases g:x=t
 ·subst g;have:Nat.beq x x=nk:=by simp
  rw [this];exact h.symm
 ·rw [lz g];rfl
theorem Ld {c:Operand} {x y:Code} (g:ev E c=.bool nk) (h:HC P n x Q E F):HC P n (.cond c x y) Q E F:=qJ g (λ_=>h) (λh=>by cases h)
theorem Le {c:Operand} {x y:Code} (g:ev E c=.bool mD) (h:HC P n y Q E F):HC P n (.cond c x y) Q E F:=qJ g (λh=>by cases h) (λ_=>h)
section
variable {K:En->PH->Prop}
theorem QR {g:Nat->Option (Nat×Nat)} {cells r:Array Value} {i off:Nat} {v:Value} {rest:List (Nat×Value)} (A:g i=V (off,1)) (B:v.cells= #[v]) (C:Nat.blt off cells.size=nk)
  (h:Instr.fill g (cells.setIfInBounds off v) rest=V r):Instr.fill g cells ((i,v)::rest)=V r:=by
 have w:off<cells.size:=Zf C;simp only [Instr.fill,A,B];simp only [XB,wg,W9];rw [Υ (by simp;omega)];simpa using h
theorem Lf (vs:List Value):∀(c:Array Value) (off k:Nat),(vs.zipIdx k).foldl (λcs (x:Value×Nat)=>cs.setIfInBounds (off+x.2) x.1) c=wr c (off+k) vs:=by
 induction vs with
 |nil=>intro c off k;rfl
 |cons v vs ih=>intro c off k;simp only [List.zipIdx_cons,List.foldl_cons,wr];rw [ih];rfl
theorem QS {g:Nat->Option (Nat×Nat)} {cells cs r:Array Value} {i off s:Nat} {rest:List (Nat×Value)} (A:g i=V (off,s)) (B:cs.size=s) (C:Nat.ble (off+s) cells.size=nk)
  (h:Instr.fill g (wr cells off cs.toList) rest=V r):Instr.fill g cells ((i,.agg cs)::rest)=V r:=by
 have w:off+s<=cells.size:=Zf C;subst B;have e:cs.zipIdx.foldl (λcs (x:Value×Nat)=>cs.setIfInBounds (off+x.2) x.1) cells=wr cells off cs.toList:=by have:=Lf cs.toList cells off 0;rw [<- Array.foldl_toList];simpa using this
 unfold Instr.fill;rw [A];show (if (decide (cs.size≠cs.size) || decide (off+cs.size>cells.size))=nk then I else Instr.fill g (cs.zipIdx.foldl (λcs (x:Value×Nat)=>cs.setIfInBounds (off+x.2) x.1) cells) rest)=V r;rw [e,Υ (by simp;omega)];exact h
theorem qL (z:Array Value) (w:Nat.blt 0 z.size=nk):∀n,Builtin.zeroCells z n=((List.replicate n z.toList).flatten).toArray:=by
 have A:0<z.size:=Zf w;intro n;apply Array.ext';apply List.ext_getElem
 ·simp [Builtin.zeroCells,List.length_flatten]
 ·intro i C r;simp only [Builtin.zeroCells,Array.toList_map,Array.toList_range,Yn,List.getElem_range];have key:∀n i (h:i<((List.replicate n z.toList).flatten).length),((List.replicate n z.toList).flatten)[i]=z[i % z.size]! :=by
   intro n;induction n with
   |zero=>intro i h;simp at h
   |succ n ih=>
    intro i h;have e:(List.replicate (n+1) z.toList).flatten=z.toList++(List.replicate n z.toList).flatten:=by simp [List.replicate_succ]
    by_cases hi:i<z.size
    ·have:((List.replicate (n+1) z.toList).flatten)[i]=z.toList[i]'(by simpa using hi):=by simp only [e];rw [List.getElem_append_left]
     rw [this,Nat.mod_eq_of_lt hi];simp [hi]
    ·have B:i - z.size<((List.replicate n z.toList).flatten).length:=by simp [List.length_flatten,Wn] at h ⊢;omega
     have:((List.replicate (n+1) z.toList).flatten)[i]=((List.replicate n z.toList).flatten)[i - z.size]:=by simp only [e];rw [List.getElem_append_right (by simpa using hi)];simp
     have g:i % z.size=(i - z.size) % z.size:=Nat.mod_eq_sub_mod (by omega);rw [this,ih _ B,g]
  exact (key n i (by simpa using r)).symm
theorem GL {z:Value} {cs:Array Value} {s:Nat} (r:cs.size=s) (g:z.cells.size=s) (B:Nat.blt 0 s=nk):Instr.fill (λi=>V (i*s,s)) (Builtin.zeroCells z.cells 1) [(0,.agg cs)]=V cs:=by
 have h:Nat.blt 0 z.cells.size=nk:=by rw [g];exact B
 rw [qL _ h];have e:((List.replicate 1 z.cells.toList).flatten).toArray=z.cells:=by simp
 rw [e];refine QS (off:=0*s) rfl r (by rw [g];simp) ?_;have w:wr z.cells 0 cs.toList=cs:=by
  apply Array.ext
  ·rw [dJ,g,r]
  ·intro i h A;have:=xK cs.toList z.cells 0 i (by simp [g,r]);rw [Χ (by simp;omega)] at this;simp only [VV] at this;rw [Wv h] at this;simp at this;rw [Wv A] at this;exact yR this
 rw [show 0*s=0 by omega,w];rfl
def NY:List Value->Prop
 |[]=>True
 |v::l=>v.cells= #[v]/\NY l
def Fu (k:Nat):List Value->List (Nat×Value)
 |[]=>[]
 |v::l=>(k,v)::Fu (k+1) l
theorem GM:∀(l:List Value) (k:Nat) (cells:Array Value),NY l->k+l.length<=cells.size->Instr.fill (λi=>V (i*1,1)) cells (Fu k l)=V (wr cells k l):=by
 intro l;induction l with
 |nil=>intro k cells _ _;rfl
 |cons v l ih=>intro k cells g h;simp only [wg] at h;refine QR (off:=k) (by simp) g.1 (Nat.ble_eq_true_of_le (by omega)) ?_;exact ih (k+1) _ g.2 (by simp;omega)
theorem NZ {z:Value} {l:List Value} {m:Nat} {cells0:Array Value} (r:l.length=m) (A:Builtin.zeroCells z.cells m=cells0) (B:z.cells.size=1) (C:NY l):Instr.fill (λi=>V (i*1,1)) cells0 (Fu 0 l)=V l.toArray:=by
 subst r;subst A;have h:(Builtin.zeroCells z.cells l.length).size=l.length:=by simp [Builtin.zeroCells,B]
 rw [GM l 0 _ C (by rw [h];omega)];congr 1;apply Array.ext
 ·rw [dJ,h];simp
 ·intro i w g;have:=xK l (Builtin.zeroCells z.cells l.length) 0 i (by rw [h];omega);rw [Χ (by simp at g;omega)] at this;simp only [VV] at this;rw [Wv w] at this;simp at g;rw [N5 g] at this;simpa using yR this
end
theorem QT {x:Operand} {k:IntKind} {i:Int} {m:Nat} (g:ev E x=.int k i) (h:0<=i):dt (Option.map (ev E) (V x)) m i.toNat:=.inr ⟨k,i,by simp [g],h,rfl⟩
theorem xL {m:Nat}:dt I m m:=.inl ⟨rfl,rfl⟩
theorem QU:fX [] F:=λ_ h=>by cases h
theorem QV {i:Nat} {S:World->Prop} {w:cv} (h:Cy F S) (A:fX w F):fX ((i,S)::w) F:=λr g=>by
 rcases tS.1 g with rfl|g
 ·exact h
 ·exact A r g
theorem QW {tmps:Array Value} {t:Nat} {v u:Value} (h:Array.getD tmps t undef=v) (g:v=u):tmps[t]?.getD undef=u:=by rw [<- Za,h,g]
theorem Lj {t s:Nat} {dd:TypeDesc} {a:Addr} {cs:Array Value} {b:Nat} {e:Ev} {w:World} (st:Sat e w F) (g:P.underlying t=V dd) (h:lA dd=nk) (B:vy P t=V (s,b)) (r:cs.size=s) (A:F.row a cs):
  (loadVar t a).run P w=.ok (.agg cs) w:=by
 subst r;refine qK _ F w _ ?_ st;simp [loadVar,am,dr g,h,bu B,fc A]
theorem jV {t:TypeId} {dd:TypeDesc} {a:Addr} {e:Ev} {w:World} (st:Sat e w F) (g:P.underlying t=V dd) (r:lA dd=mD) (h:F.cell a=V v):
  (loadVar t a).run P w=.ok v w:=by
 refine qK _ F w _ ?_ st;simp [loadVar,am,dr g,r,load,qX,h]
def ia (P:Program) (E:En) (F:PH):ResultVar->Value->Prop
 | .tmp t,v=>E t=v
 | .cell x t,v=>∃a,E x=.pointer (V a)/\∀e w,Sat e w F->(loadVar t a).run P w=.ok v w
theorem xM {t:Tmp} {v:Value} (g:E t=v):ia P E F (.tmp t) v:=g
theorem Ll {x:Tmp} {t s:Nat} {dd:TypeDesc} {a:Addr} {cs:Array Value} {b:Nat} (h:E x=.pointer (V a)) (g:P.underlying t=V dd) (r:lA dd=nk) (B:vy P t=V (s,b)) (w:cs.size=s) (A:F.row a cs):
  ia P E F (.cell x t) (.agg cs):=⟨a,h,λ_ _ st=>Lj st g r B w A⟩
theorem Lm {x:Tmp} {t:Nat} {dd:TypeDesc} {a:Addr} {v:Value} (r:E x=.pointer (V a)) (g:P.underlying t=V dd) (w:lA dd=mD) (h:F.cell a=V v):
  ia P E F (.cell x t) v:=⟨a,r,λ_ _ st=>jV st g w h⟩
theorem dO {r:ResultVar} {v:Value} (h:ia P E F r v) {e:Ev} {w:World} {tmps:Array Value} (st:Sat e w F) (g:∀t:Nat,Array.getD tmps t undef=E t):
  (∃t,r=.tmp t/\tmps[t]?.getD undef=v)\/∃x t a,r=.cell x t/\tmps[x]?.getD undef=.pointer (V a)/\(loadVar t a).run P w=.ok v w:=by
 cases r with
 |tmp t=>exact .inl ⟨t,rfl,QW (g t) h⟩
 |cell x t=>obtain ⟨a,A,B⟩:=h;exact .inr ⟨x,t,a,rfl,QW (g x) A,B e w st⟩
theorem aaC {g:Func} (h:g.results= #[]):oX P g E F (.tuple #[]):=λe w r _ _=>by simp [results,h]
theorem Yw {C:Func} {r:ResultVar} {v:Value} (h:C.results= #[r]) (A:ia P E F r v):oX P C E F v:=λe w g st B=>by have k:=dO A st B;clear B A;rcases k with ⟨t,rfl,D⟩|⟨x,t,a,rfl,D,G⟩<;>simp [results,asAddr, *]
theorem Yx {G:Func} {r C:ResultVar} {v H:Value} (h:G.results= #[r,C]) (D:ia P E F r v) (g:ia P E F C H):oX P G E F (.tuple #[v,H]):=λe w B st A=>by have k:=dO D st A;have L:=dO g st A;clear A D g;rcases k with ⟨t,rfl,J⟩|⟨x,t,a,rfl,J,N⟩<;>rcases L with ⟨K,rfl,M⟩|⟨O,K,R,rfl,M,W⟩<;>simp [results,asAddr, *]
theorem aaD {N:Func} {r L A:ResultVar} {v M B:Value} (h:N.results= #[r,L,A]) (K:ia P E F r v) (C:ia P E F L M) (g:ia P E F A B):oX P N E F (.tuple #[v,M,B]):=λe w J st D=>by have k:=dO K st D;have k':=dO C st D;have H:=dO g st D;clear D K C g;rcases k with ⟨t,rfl,O⟩|⟨x,t,a,rfl,O,h2⟩<;>rcases k' with ⟨W,rfl,h3⟩|⟨x',W,a',rfl,h3,h4⟩<;>rcases H with ⟨G,rfl,X⟩|⟨R,G,a0,rfl,X,h6⟩<;>simp [results,asAddr, *]
theorem rt1 (g:Func) (R:Value->PH->Prop) {t:Tmp} {v:Value} (r:g.results= #[.tmp t]) (w:E t=v) (h:R v F):NJ P g R .ret E F:=⟨v,Yw r (xM w),h⟩
theorem rt2 (w:Func) (R:Value->PH->Prop) {t g:Tmp} {v r:Value} (A:w.results= #[.tmp t,.tmp g]) (B:E t=v) (C:E g=r) (h:R (.tuple #[v,r]) F):NJ P w R .ret E F:=⟨_,Yx A (xM B) (xM C),h⟩
theorem jv {k:IntKind} {x:Int}:ak (.int k x):=⟨(λ_ h=>by cases h),(λ_ h=>by cases h)⟩
theorem Lu {x:Sl}:ak x.v:=⟨(λ_ h=>by cases h),(λ_ h=>by cases h)⟩
end
theorem au (F:PH):F.le F:=λ_ _ h=>h
theorem aa {F G H:PH} (h:F.le G) (k:G.le H):F.le H:=λb o g=>k b o (h b o g)
theorem ae {F:PH} {b:Nat} (o:Obj) (h:F b=I):F.le (F.set b o):=λx w g=>by
 unfold PH.set;by_cases r:x=b
 ·subst r;rw [h] at g;cases g
 ·simp [r,g]
theorem aK {F G:PH} (h:F.le G) {a:Addr} {v:Value} (g:F.cell a=V v):G.cell a=V v:=by
 unfold PH.cell at*;cases hb:F a.block with
 |none=>simp [hb] at g
 |some o=>rw [h _ _ hb];rw [hb] at g;exact g
theorem aT {F G:PH} (h:F.le G) {b:Nat} (g:G b=I):F b=I:=by
 cases hf:F b with
 |none=>rfl
 |some o=>rw [h _ _ hf] at g;cases g
theorem aH {F:PH} {b c:Nat} {o:Obj} (h:F b=I) (g:F c=V o):c≠b:=by intro e;subst e;rw [h] at g;cases g
@[simp] theorem aI (b o i:Nat):nV ⟨b,o,I⟩ i=⟨b,o+i,I⟩:=by unfold nV;split<;>simp_all
@[simp] theorem aq (F:PH) (b:Nat) (o:Obj):(F.set b o) b=V o:=by simp [PH.set]
theorem aw (F:PH) {b x:Nat} (o:Obj) (h:x≠b):(F.set b o) x=F x:=by simp [PH.set,h]
@[simp] theorem aR (F:PH) (b:Nat) (o o':Obj):(F.set b o).set b o'=F.set b o':=set_set F b o o'
theorem av {F:PH} {b i:Nat} {c:Array Value} {e:TypeId} {fr:Nat×Nat} (h:F b=V (Y c e fr)):F.cell ⟨b,i,I⟩=c[i]? :=by simp [PH.cell,h]
@[simp] theorem qin (F:PH) (b i:Nat) (c:Array Value) (e:TypeId) (fr:Nat×Nat):(F.set b (Y c e fr)).cell ⟨b,i,I⟩=c[i]? :=by simp [PH.cell]
def dk (fp:Nat->Prop) (F G:PH):Prop:=∀b o,F b=V o->¬fp b->G b=V o
theorem dk.refl (g:Nat->Prop) (F:PH):dk g F F:=λ_ _ h _=>h
theorem dk.trans {g:Nat->Prop} {F G H:PH} (h:dk g F G) (k:dk g G H):dk g F H:=λb o w r=>k b o (h b o w r) r
theorem dk.of_le {r:Nat->Prop} {F G:PH} (h:F.le G):dk r F G:=λb o g _=>h b o g
theorem dk.set {r:Nat->Prop} {F:PH} {b:Nat} (o:Obj) (h:r b\/F b=I):dk r F (F.set b o):=λx B g A=>by
 by_cases w:x=b
 ·subst w;rcases h with h|h
  ·exact absurd h A
  ·rw [h] at g;cases g
 ·rw [aw F o w];exact g
structure RdS (F:PH) (s:Sl) (size:Nat) (vs:List Value):Prop where
 len:vs.length=s.len*size
 cap:s.len<=s.cap
 cells:0<s.len->∃b o,s.qa5=V ⟨b,o,I⟩/\∀i,(h:i<vs.length)->F.cell ⟨b,o+i,I⟩=V vs[i]
theorem RdS.le {F G:PH} {s:Sl} {size:Nat} {vs:List Value} (h:RdS F s size vs) (w:F.le G):RdS G s size vs:=
 ⟨h.len,h.cap,λA=>by
  obtain ⟨b,o,g,r⟩:=h.cells A
  exact ⟨b,o,g,λi hi=>aK w (r i hi)⟩⟩
theorem RdS.nil (F:PH) (size:Nat):RdS F Sl.nil size []:=⟨by simp [Sl.nil],by simp [Sl.nil],by simp [Sl.nil]⟩
theorem RdS.new {F:PH} {b n cap size:Nat} {c:Array Value} {e:TypeId} {fr:Nat×Nat} {vs:List Value} (h:F b=V (Y c e fr)) (w:c.toList.take (n*size)=vs) (r:vs.length=n*size) (g:n<=cap):
  RdS F ⟨V ⟨b,0,I⟩,n,cap⟩ size vs:=⟨r,g,λ_=>⟨b,0,rfl,λi hi=>by
   rw [av h];subst w
   simp at hi ⊢⟩⟩
theorem RdS.row {F:PH} {s:Sl} {size:Nat} {vs:List Value} (h:RdS F s size vs) {a:Addr} (E:s.qa5=V a) (k:Nat) (cs:Array Value) (B:cs.toList=(vs.drop k).take cs.size):F.row (a.add k) cs:=by
 intro i hi;have g:k+i<vs.length:=by have:=congrArg List.length B;rw [z9,W8,zQ] at this;omega
 have C:0<s.len:=by
  rcases Yh s.len with r|r
  ·have:=h.len;rw [r,Wp] at this;omega
  ·exact r
 obtain ⟨b,o,w,D⟩:=h.cells C;rw [E] at w;cases w;simp only [aI];rw [Wo,D (k+i) g];have A:cs.toList[i]? =V cs[i]:=by simp [hi]
 rw [B,YF hi,List.getElem?_drop,N5 g] at A;exact A
theorem RdS.cell {F:PH} {s:Sl} {vs:List Value} (h:RdS F s 1 vs) {a:Addr} (r:s.qa5=V a) {i:Nat} (hi:i<vs.length):F.cell (a.add i)=V vs[i]:=by
 have w:0<s.len:=by have:=h.len;omega
 obtain ⟨b,o,g,A⟩:=h.cells w;rw [r] at g;cases g;simp only [aI];exact A i hi
theorem RdS.cut {F:PH} {s:Sl} {size:Nat} {vs:List Value} (h:RdS F s size vs) {l r m:Nat} (D:l<=r) (E:r<=s.len) (G:r<=m):RdS F (s.cut size l r m) size ((vs.drop (l*size)).take ((r - l)*size)):=by
 have w:(r - l)*size<=s.len*size - l*size:=by rw [<- Nat.sub_mul];exact Xj _ (by omega)
 refine ⟨by rw [z9,W8,h.len];simp only [Sl.cut];omega,by simp only [Sl.cut];omega,λA=> ?_⟩;simp only [Sl.cut] at A ⊢;obtain ⟨b,o,C,B⟩:=h.cells (by omega);have g:¬m=l:=by omega
 refine ⟨b,o+l*size,by simp [g,C],λi hi=> ?_⟩;simp only [z9,W8] at hi;rw [Wo,B (l*size+i) (by omega)];simp [List.getElem_take,List.getElem_drop]
theorem nr {P:Program} {n:Nat} {F:PH} {Q:Unit->PH->Prop} (h:Q () F):aG P (askRoom n) F Q:=by
 unfold askRoom;split
 ·exact h
 ·exact h
theorem bT {P:Program} {t e size bytes:Nat} {z:Value} {n c:Int} {k k':IntKind} {F:PH} {Q:Value->PH->Prop} (O:P.underlying t=V (.slice e)) (E:vy P e=V (size,bytes)) (K:bv P e=V z) (r:z.cells.size=size)
  (W:0<=n) (N:n<=c) (X:(bytes:Int)*c<=281474976710656) (D:c<=9223372036854775807)
  (h:∀b,F b=I->Q (Sl.v ⟨V ⟨b,0,I⟩,n.toNat,c.toNat⟩) (F.set b (Y (Builtin.zeroCells z.cells c.toNat) e))):
  aG P (Instr.makeSlice t (.int k n) (.int k' c)) F Q:=by
 obtain ⟨i,hi,A⟩:=fD E;have M:IntKind.i64.wrap n=n:=aJ (by omega);have L:IntKind.i64.wrap c=c:=aJ (by omega);simp only [Instr.makeSlice,aD,bW O,asInt,asIntOf,aL,A,hi,M,L];have B:0<=c:=by omega
 have R:decide (c<0)=mD:=by simpa using B
 have G:decide ((bytes:Int)*c>2 ^ 48)=mD:=by simp;omega
 have J:decide (n<0)=mD:=by simpa using W
 have H:decide (n>c)=mD:=by simp;omega
 simp only [R,G,J,H,Yr,VQ,if_false,aD];refine nr ?_;simp only [fm E];have fin:∀w:Array Value,(Array.range (c.toNat*size)).map (λi=>w[i % w.size]!)=Builtin.zeroCells z.cells c.toNat->
   aG P (do let a <- newRow e ((Array.range (c.toNat*size)).map (λi=>w[i % w.size]!));pure (Value.slice (V a) n.toNat c.toNat)) F Q:=by
  intro w C;rw [C];simp only [newRow,newObj,aD,aG,aL];exact h
 by_cases g:c.toNat*size=0
 ·simp only [g,if_true];have:=fin #[] (by simp [Builtin.zeroCells,g,r]);simp only [g] at this;exact this
 ·simp only [Υ g,aD,eA K,aL];exact fin z.cells (by simp [Builtin.zeroCells,r])
theorem iW {P:Program} {F:PH} {s:Sl} {size n:Nat} {vs:List Value} {Q:Array Value->PH->Prop} (h:RdS F s size vs) (B:n<=s.len) (C:Q (vs.take (n*size)).toArray F):aG P (Builtin.firstCells size n s.v) F Q:=by
 obtain ⟨A,len,cap⟩:=s;cases A with
 |none=>
  have r:len=0:=by
   rcases Yh len with r|r
   ·exact r
   ·obtain ⟨b,o,w,_⟩:=h.cells r;cases w
  have D:n=0:=by simp only at B;omega
  have:=h.len;simp only [r,Wp,XZ] at this;subst this;simpa [Sl.v,Builtin.firstCells] using C
 |some a=>
  simp only [Sl.v,Builtin.firstCells];have g:(vs.take (n*size)).toArray.size=n*size:=by have w:=h.len;have H:n*size<=len*size:=Xj _ B;simp only at w;rw [XB,z9,w];omega
  refine g0 _ _ _ _ ?_ C;have key:F.row a (vs.take (n*size)).toArray->qX P (loadCells a (n*size)) F (vs.take (n*size)).toArray:=λG=>by have:=fc (P:=P) G;rw [g] at this;exact this
  refine key ?_;by_cases E:n*size=0
  ·intro i hi;rw [g,E] at hi;omega
  ·have:=h.row (a:=a) rfl 0 (vs.take (n*size)).toArray (by rw [g];simp);simpa [nV] using this
theorem gu {P:Program} {F:PH} {s x:Sl} {t e size bytes ty:Nat} {z:Value} {h news:List Value} {Q:Value->PH->Prop} (ht:P.underlying t=V (.slice e)) (G:vy P e=V (size,bytes)) (hz:bv P e=V z) (_:z.cells.size=size)
  (W:RdS F s size h) (X:RdS F x size news) (J:∀v∈news,ak v) (C:(s.len+x.len)*bytes<=140737488355328) (a0:s.len+x.len<=9223372036854775807)
  (h0:x.len*size=0->s.len+x.len<=s.cap->Q (Sl.v ⟨s.qa5,s.len+x.len,s.cap⟩) F)
  (h1:0<x.len*size->s.len+x.len<=s.cap->∃b o c e',s.qa5=V ⟨b,o,I⟩/\F b=V (Y c e' (0,0))/\o+s.len*size+x.len*size<=c.size/\
   Q (Sl.v ⟨s.qa5,s.len+x.len,s.cap⟩) (F.set b (Y (wr c (o+s.len*size) news) e')))
  (h2:s.cap<s.len+x.len->∀cap b,s.len+x.len<=cap->F b=I->Q (Sl.v ⟨V ⟨b,0,I⟩,s.len+x.len,cap⟩) (F.set b (Y (h.toArray++news.toArray++Builtin.zeroCells z.cells (cap - (s.len+x.len))) e))):
  aG P (Builtin.append_ #[t,t] ty #[s.v,x.v]) F Q:=by
 have r:=X.len;have R:=W.len;have E:∀B,B news.toArray F->aG P (Builtin.firstCells size x.len x.v) F B:=λB O=>iW X (ru _) (by rw [<- r,wB];exact O);have K:∀B,B h.toArray F->aG P (Builtin.firstCells size s.len s.v) F B:=λB O=>iW W (ru _) (by rw [<- R,wB];exact O);obtain ⟨H,len,cap⟩:=s;obtain ⟨xb,L,xc⟩:=x;simp only [Builtin.append_,aD,Sl.v,List.getElem?_toArray,X0,Vy,bW ht,Builtin.lenOf,aL,fm G,VQ,if_false,Bool.not_false,if_true] at*;obtain ⟨i,M,A⟩:=fD G;by_cases g:len+L<=cap
 ·rw [Χ g];simp only [aD];refine E _ ?_;by_cases w:L*size=0
  ·have D:news=[]:=Wm (by rw [r,w]);cases H with
   |none=>exact h0 w g
   |some a=>simp only [D,storeCells,aD,aL];exact h0 w g
  ·obtain ⟨b,o,c,e',g1,g2,g3,g4⟩:=h1 (by omega) g;cases g1;simp only [aD];refine fu news 0 F _ c _ (by simp) (by simpa using g2) (by simp only [aI];rw [r];omega) J (λN=>w (by rw [<- r,N];rfl)) ?_;simpa using g4
 ·rw [Υ g];simp only [aD,A]
  rw [Υ (by
   rintro ⟨ha,hb⟩;have:(IntKind.i64.max:Int)=9223372036854775807:=by decide
   rw [this] at ha
   omega)]
  have hg:=growslice_fits (need:=len+L) (old:=cap) (bytes:=bytes) (by omega) C;simp only [aD,A];rw [Υ (by rw [M];omega)];simp only [aD,choose];unfold aG;rw [Υ (by simp [Question.forced])];intro tt;simp only [aG,A];refine nr ?_;refine K _ ?_;refine E _ ?_;simp only [eA hz,newRow,newObj,aD,aG,aL];intro b hb;exact h2 (by omega) _ b (by simp only [Question.cut];omega) hb
open Go.ChangeShapes Go.WideShapes Go.ChangeAt Go.RowKit
def hF (W:World):PH:=λb=>W.heap[b]?
theorem Fv {W:World} {a:Addr} {v:Value} (h:W.cell? a=V v):(hF W).cell a=V v:=h
theorem qhs {P:Program} {f:FuncId} {args:Array Value} {W:World} (h:aj P f args (hF W) λv C=>v=.bool nk/\(hF W).le C):
  Calls P f args W λe A=>e=.returned (.bool nk)/\Below W.heap.size W A:=by
 refine (h ⟨W.os,W.tape,W.output,λ_=>I⟩ W ⟨rfl,rfl,rfl,λb o B=>B,λb o B=>(by cases B)⟩).mono ?_;rintro e A ⟨v,C,rfl,r,rfl,w⟩;have key:∀(k:Nat) (o:Obj),W.heap[k]? =V o->A.heap[k]? =V o:=λk o g=>r.heap k o (w k o g);refine ⟨rfl,r.os,r.tape,r.output,?_,λk g=> ?_⟩
 ·rcases Yh W.heap.size with E|E
  ·omega
  ·have D:=key (W.heap.size - 1) _ (Wv (by omega));have F:=(XY.1 D).1;omega
 ·rw [Wv g];exact key k _ (Wv g)
section
variable {H:Type} {enc:TypeId×Value->H} {P:Program} {W W':World}
theorem kK (D:laidOutB P=nk) {sp:Nat->Bool} (C:Below W.heap.size W W'):∀{A:List TypeId} {vs:List Value} {ds:List (DataW H)} {r:List MemPlace},
  A.all (λt=>P.readableRec t && decide (t<P.types.size))=nk->DataW.TrodAll enc P W 0 (λ_=>nk) nk A vs ds r->(∀x∈r,x.block<W.heap.size)->(∀x∈r,sp x.block=nk)->DataW.TrodAll enc P W' 0 sp nk A vs ds r
 |[],vs,ds,r,_,h,_,_=>by obtain ⟨rfl,rfl,rfl⟩:=trodAll_nil h;rfl
 |t::A,vs,ds,r,B,h,hlt,hsp=>by
  obtain ⟨v,K,d,G,p,q,rfl,rfl,rfl,E,F⟩:=trodAll_cons h;rw [Xw,VT,VT,δ] at B;obtain ⟨⟨J,w⟩,B⟩:=B
  exact ⟨p,q,WideElems.Trod_stays D J w E (λx g=>C.same (hlt x (Zg _ g))) (λx g=>hsp x (Zg _ g)),
   kK D C B F (λx g=>hlt x (List.mem_append_right _ g)) (λx g=>hsp x (List.mem_append_right _ g)),rfl⟩
theorem GN {f:Func} {s:ChangeSpec} {args:Array Value} {ds D:List (DataW H)} {before:List MemPlace} {F:TypeId} {fresh:Bool}
  (N:laidOutB P=nk) (G:s.vars=[]) (K:DataW.Whole enc P f.params.toList s.vars mD W args.toList ds D before) (g:f.params.toList.all (λt=>P.readableRec t && decide (t<P.types.size))=nk)
  (M:f.resultTypes= #[F]) (B:P.underlying F=V .bool) (J:Below W.heap.size W W')
  (C:s.fn H (ds++D)={results:=[.lit (.bool nk)],args:=ds}):
  s.post enc P f mD fresh mD mD W args (.bool nk) W':=by
 have w:=K;obtain ⟨p,q,L,E,rfl,_,_⟩:=K;rw [G] at E;obtain ⟨rfl,rfl⟩:=trodVars_none E;have r:∀x∈p,x.block<W.heap.size:=λx A=>by simpa using w.lt x (Zg _ A)
 refine ⟨ds,[],p++[],[],p,[],w,?_,?_,?_,J.frame _,λh=>by cases h⟩
 ·rw [C,M];exact trodAll_cons_mk (shut_bool B _) trodAll_mk0
 ·rw [C];exact kK N J g L r (λx A=>by simpa using r x A)
 ·rw [C,G];rfl
end
set_option maxRecDepth 10000
def bt (f:Nat->Bool):Nat->Nat
 |0=>0
 |n+1=>2 ^ n*(if f n then 1 else 0)+bt f n
theorem tD (f:Nat->Bool):∀n,bt f n<2 ^ n
 |0=>by simp [bt]
 |n+1=>by have:=tD f n;unfold bt;rw [Nat.pow_succ];split<;>omega
theorem xN (f:Nat->Bool):∀n j,(bt f n).testBit j=(decide (j<n) && f j)
 |0,j=>by simp [bt]
 |n+1,j=>by
  unfold bt;rw [YL _ (tD f n)];split
  ·rename_i h;rw [xN f n j];simp [h,show j<n+1 by omega]
  ·rename_i h;by_cases g:j=n
   ·subst g;cases f j<;>simp
   ·have:j - n≠0:=by omega
    rw [show decide (j<n+1)=mD by simp;omega];split
    ·have:=Zi (n:=0) (m:=j - n);rw [Nat.pow_zero] at this;rw [this];simp;omega
    ·simp
theorem uZ {x n:Nat} {f:Nat->Bool} (r:x<2 ^ n) (h:∀j,j<n->x.testBit j=f j):x=bt f n:=
 Nat.eq_of_testBit_eq λj=>by
  rw [xN];by_cases g:j<n
  ·rw [h j g];simp [g]
  ·rw [Nat.testBit_lt_two_pow (Nat.lt_of_lt_of_le r (Ww (by omega) (by omega)))];simp [g]
theorem Lw {n:Nat} {f g:Nat->Bool} (h:∀j,j<n->f j=g j):bt f n=bt g n:=
 uZ (tD f n) λj r=>by rw [xN,h j r];simp [r]
def wd (P:Nat->Bool) (k:Nat):Nat:=bt (λj=>P (64*k+j)) 64
theorem oZ (P:Nat->Bool) (k:Nat):wd P k<18446744073709551616:=tD _ 64
theorem iM (P:Nat->Bool) (k:Nat) {j:Nat} (g:j<64):(wd P k).testBit j=P (64*k+j):=by unfold wd;rw [xN];simp [g]
theorem xO (k:Nat):wd (λ_=>mD) k=0:=(uZ (x:=0) (by decide) λj _=>by simp).symm
theorem qfU (P Q:Nat->Bool) (k:Nat):wd (λi=>P i || Q i) k=wd P k ||| wd Q k:=
 (uZ (x:=wd P k ||| wd Q k) (Nat.or_lt_two_pow (tD _ 64) (tD _ 64)) λj g=>by rw [Nat.testBit_or,iM P k g,iM Q k g]).symm
theorem Tq (P Q:Nat->Bool) (k:Nat):wd (λi=>P i && Q i) k=wd P k &&& wd Q k:=
 (uZ (x:=wd P k &&& wd Q k) (Nat.and_lt_two_pow _ (tD _ 64)) λj g=>by rw [Nat.testBit_and,iM P k g,iM Q k g]).symm
theorem iN {P:Nat->Bool} {k:Nat}:wd P k=0↔∀j,j<64->P (64*k+j)=mD:=by
 constructor
 ·intro h j g;have:=iM P k g;rw [h] at this;simpa using this.symm
 ·intro h;exact (uZ (x:=0) (by decide) λj g=>by rw [h j g];simp).symm
theorem nu {x:Int} (g:0<=x) (h:x<18446744073709551616):IntKind.u64.wrap x=x:=by unfold IntKind.wrap;simp only [IntKind.bits,IntKind.signed];simp only [W6,VQ,if_false];omega
theorem Fw {a:Nat} (h:a<18446744073709551616):(BitVec.ofInt (IntKind.u64).bits (a:Int)).toNat=a:=by
 rw [BitVec.toNat_ofInt];show ((a:Int) % ((2 ^ 64:Nat):Int)).toNat=a;have:((2 ^ 64:Nat):Int)=18446744073709551616:=by decide
 rw [this];omega
theorem Ly {a b:Nat} (g:a<18446744073709551616) (h:b<18446744073709551616):IntKind.u64.wrap ((BitVec.ofInt (IntKind.u64).bits (a:Int) ||| BitVec.ofInt (IntKind.u64).bits (b:Int)).toNat)=((a ||| b:Nat):Int):=by rw [BitVec.toNat_or,Fw g,Fw h];have:a ||| b<2 ^ 64:=Nat.or_lt_two_pow g h;exact nu (by omega) (by omega)
theorem xP {a b:Nat} (h:a<18446744073709551616) (g:b<18446744073709551616):IntKind.u64.wrap ((BitVec.ofInt (IntKind.u64).bits (a:Int) &&& BitVec.ofInt (IntKind.u64).bits (b:Int)).toNat)=((a &&& b:Nat):Int):=by rw [BitVec.toNat_and,Fw h,Fw g];have:a &&& b<2 ^ 64:=Nat.and_lt_two_pow _ g;exact nu (by omega) (by omega)
def Low (x t:Nat):Prop:=∃m,x=2 ^ (t+1)*m+2 ^ t
theorem Low.of {x t:Nat} (g:x.testBit t=nk) (w:∀j,j<t->x.testBit j=mD):Low x t:=by
 refine ⟨x / 2 ^ (t+1),Nat.eq_of_testBit_eq λj=> ?_⟩;rw [YL _ (Nat.pow_lt_pow_right (by omega) (by omega))];split
 ·rename_i h;rw [Zi];by_cases r:j=t
  ·subst r;rw [g];simp
  ·rw [w j (by omega)];simp;omega
 ·rw [Nat.testBit_div_two_pow];congr 1;omega
theorem Low.pos {x t:Nat} (h:Low x t):0<x:=by obtain ⟨m,rfl⟩:=h;have:=Nat.two_pow_pos t;omega
theorem Low.clear {x t:Nat} (h:Low x t) (j:Nat):(x &&& (x - 1)).testBit j=(x.testBit j && decide (j≠t)):=by
 obtain ⟨m,rfl⟩:=h;have w:=Nat.two_pow_pos t;have e:2 ^ (t+1)*m+2 ^ t - 1=2 ^ (t+1)*m+(2 ^ t - 1):=by omega
 have r:2 ^ t<2 ^ (t+1):=Nat.pow_lt_pow_right (by omega) (by omega);rw [e,Nat.testBit_and,YL _ r,YL _ (by omega)];split
 ·rw [Zi,Nat.testBit_two_pow_sub_one];by_cases g:t=j
  ·subst g;simp
  ·simp [g]
 ·rename_i h;rw [Bool.and_self];simp;omega
theorem Low.neg {x t:Nat} (h:Low x t) (B:x<2 ^ 64):x &&& (2 ^ 64 - x)=2 ^ t:=by
 have E:t<64:=by
  rcases Nat.lt_or_ge t 64 with g|g
  ·exact g
  ·obtain ⟨m,rfl⟩:=h;have:=Ww (n:=2) (by omega) g;omega
 obtain ⟨m,rfl⟩:=h;have D:=Nat.two_pow_pos t;have w:2 ^ t<2 ^ (t+1):=Nat.pow_lt_pow_right (by omega) (by omega);have r:(2:Nat) ^ 64=2 ^ (t+1)*2 ^ (63 - t):=by rw [<- Nat.pow_add];congr 1;omega
 have A:m<2 ^ (63 - t):=by
  rcases Nat.lt_or_ge m (2 ^ (63 - t)) with g|g
  ·exact g
  ·have:=Nat.mul_le_mul_left (2 ^ (t+1)) g;omega
 have e:2 ^ 64 - (2 ^ (t+1)*m+2 ^ t)=2 ^ (t+1)*(2 ^ (63 - t) - (m+1))+2 ^ t:=by
  have C:2 ^ (t+1)=2 ^ t+2 ^ t:=by rw [Nat.pow_succ];omega
  have:2 ^ (t+1)*(2 ^ (63 - t) - (m+1))=2 ^ (t+1)*2 ^ (63 - t) - 2 ^ (t+1)*(m+1):=Nat.mul_sub _ _ _;rw [this,<- r,Nat.mul_add,xF];have:2 ^ (t+1)*m+2 ^ (t+1)<=2 ^ 64:=by rw [r];have:=Nat.mul_le_mul_left (2 ^ (t+1)) (show m+1<=2 ^ (63 - t) by omega);rw [Nat.mul_add,xF] at this;exact this
  omega
 rw [e];refine Nat.eq_of_testBit_eq λj=> ?_;rw [Nat.testBit_and,YL _ w,YL _ w,Zi];split
 ·rw [Bool.and_self]
 ·rename_i h;rw [Nat.testBit_two_pow_sub_succ A];have:decide (t=j)=mD:=by simp;omega
  rw [this];cases m.testBit (j - (t+1))<;>simp
def Ad:List Nat:=[0,1,56,2,57,49,28,3,61,58,42,50,38,29,17,4,62,47,59,36,45,43,51,22,53,39,33,30,24,18,12,5,63,55,48,27,60,41,37,16,46,35,44,21,52,32,23,11,54,26,40,15,34,20,31,10,25,14,19,9,13,8,7,6]
theorem qfV:∀t,t<64->(2 ^ t*285870213051353865 % 18446744073709551616) / 288230376151711744<64/\Ad[(2 ^ t*285870213051353865 % 18446744073709551616) / 288230376151711744]? =V t:=by decide
section
variable {P:Program} {F:PH} {E:En} {o:Oper} {x y:Operand} {t t':TypeId}
theorem pc {op:BinOp} {c d:Array Value} (h:P.eqGuardType P.depth t=mD):qX P (eqGuard op t x y (.agg c) (.agg d)) F ():=by cases op<;>simp [eqGuard,program,am,qX,h]
theorem N0 {c d:Array Value} {r:Bool} (A:o.op=.binOp .eql t x y t') (h:ev E x=.agg c) (w:ev E y=.agg d) (g:P.eqGuardType P.depth t=mD) (B:qX P (Op.equal t (.agg c) (.agg d)) F r):
  RD P E F o (.bool r):=jT A h w (pc g) B rfl
theorem N7 {c d:Array Value} {r:Bool} (A:o.op=.binOp .neq t x y t') (h:ev E x=.agg c) (w:ev E y=.agg d) (g:P.eqGuardType P.depth t=mD) (B:qX P (Op.equal t (.agg c) (.agg d)) F r):
  RD P E F o (.bool (!r)):=jU A h w (pc g) B rfl
end
section
variable {K:Type} [DecidableEq K]
structure pd (P:Program) (kt:TypeId) (enc:K->Value):Prop where
 eq:∀F a b,qX P (Op.equal kt (enc a) (enc b)) F (decide (a=b))
 chk:∀F e a,qX P (Instr.checkKey e 10000 kt (enc a)) F ()
 same:∀a,Instr.sameBits 10000 (enc a) (enc a)=nk
 kind:∃d,P.underlying kt=V d/\((∀a b,Instr.sameNow d (enc a) (enc b)=V (decide (a=b)))\/∀a b,Instr.sameNow d (enc a) (enc b)=I)
structure fY (P:Program) (mt:TypeId) (enc:K->Value) (z:Value):Prop where
 ex:∃kt e,P.underlying mt=V (.map kt e)/\bv P e=V z/\pd P kt enc
def lk (k:K):List (K×Value)->Option Value
 |[]=>I
 |p::r=>if k=p.1 then V p.2 else lk k r
def Ws (k:K):List (K×Value)->Nat->Option (Nat×Value)
 |[],_=>I
 |p::r,i=>if k=p.1 then V (i,p.2) else Ws k r (i+1)
def WP (k:K) (v:Value):List (K×Value)->List (K×Value)
 |[]=>[(k,v)]
 |p::r=>if k=p.1 then (k,v)::r else p::WP k v r
theorem CJ (k k':K) (v:Value):∀(L:List (K×Value)),lk k' (WP k v L)=if k'=k then V v else lk k' L
 |[]=>rfl
 |p::r=>by
  unfold WP;split
  ·rename_i h;simp only [lk];split
   ·rfl
   ·rename_i g;rw [Υ (by rw [<- h];exact g)]
  ·rename_i h;simp only [lk,CJ k k' v r];split
   ·rename_i w;rw [Υ (by rintro rfl;exact h w)]
   ·rfl
theorem ny (k:K) (v:Value):∀(L:List (K×Value)) (i:Nat),Ws k L i=I->lk k L=I/\WP k v L=L++[(k,v)]
 |[],_,_=>⟨rfl,rfl⟩
 |p::r,i,h=>by
  unfold Ws at h;split at h
  ·cases h
  ·rename_i g;obtain ⟨w,A⟩:=ny k v r _ h;exact ⟨by unfold lk;rw [Υ g,w],by unfold WP;rw [Υ g,A];rfl⟩
theorem nz (k:K) (v:Value):∀(L:List (K×Value)) (i j:Nat) (w:Value),Ws k L i=V (j,w)->∃d,j=i+d/\d<L.length/\L[d]? =V (k,w)/\lk k L=V w/\WP k v L=L.set d (k,v)
 |[],_,_,_,h=>by cases h
 |p::r,i,j,w,h=>by
  unfold Ws at h;split at h
  ·rename_i g;cases h;refine ⟨0,rfl,by simp,?_,by unfold lk;rw [Χ g],by unfold WP;rw [Χ g];rfl⟩;subst g;rfl
  ·rename_i A;obtain ⟨d,E,F,D,C,B⟩:=nz k v r _ _ _ h;exact ⟨d+1,by omega,by simp only [wg];omega,by simpa using D,by unfold lk;rw [Υ A,C],by unfold WP;rw [Υ A,B];rfl⟩
def dW (enc:K->Value) (m:K->Option Value) (o:Obj):Prop:=
 ∃(es:Array MapEntry) (c:Nat) (L:List (K×Value)),o=.map es c/\es.toList.map (λe=>(e.key,e.val))=L.map (λp=>(enc p.1,p.2))/\∀k,m k=lk k L
theorem dW.empty (enc:K->Value):dW enc (λ_=>I) (.map #[] 0):=⟨#[],0,[],rfl,rfl,λ_=>rfl⟩
theorem dW.not_cells {enc:K->Value} {m:K->Option Value} {o:Obj} (h:dW enc m o):∀c e fr,o≠Y c e fr:=by obtain ⟨g,c,L,rfl,_⟩:=h;intro c e fr h;cases h
variable {P:Program} {F:PH} {kt mt:TypeId} {enc:K->Value} {z:Value}
theorem jw (w:pd P kt enc) (k:K):∀(g:List MapEntry) (L:List (K×Value)) (i:Nat),g.map (λe=>(e.key,e.val))=L.map (λp=>(enc p.1,p.2))->
  qX P (Instr.findAsking kt (enc k) g i) F (Ws k L i)
 |[],[],_,_=>rfl
 |[],_::_,_,h=>by cases h
 |_::_,[],_,h=>by cases h
 |e::g,p::L,i,h=>by
  simp only [xA,List.cons.injEq,Ys] at h;obtain ⟨⟨A,B⟩,C⟩:=h;simp only [Instr.findAsking,am];refine ⟨_,by rw [A];exact w.eq F k p.1,?_⟩;unfold Ws;by_cases r:k=p.1
  ·simp [r,B]
  ·simpa [r] using jw w k g L (i+1) C
theorem tE {d:TypeDesc} (w:∀a b,Instr.sameNow d (enc a) (enc b)=V (decide (a=b))) (k:K):∀(g:List MapEntry) (L:List (K×Value)) (i:Nat),g.map (λe=>(e.key,e.val))=L.map (λp=>(enc p.1,p.2))->
  Instr.findNow d (enc k) g i=V (Ws k L i)
 |[],[],_,_=>rfl
 |[],_::_,_,h=>by cases h
 |_::_,[],_,h=>by cases h
 |e::g,p::L,i,h=>by
  simp only [xA,List.cons.injEq,Ys] at h;obtain ⟨⟨A,B⟩,C⟩:=h;simp only [Instr.findNow,A,w];unfold Ws;by_cases r:k=p.1
  ·simp [r,B]
  ·simpa [r] using tE w k g L (i+1) C
theorem gx (w:pd P kt enc) (k:K) (g:List MapEntry) (L:List (K×Value)) (h:g.map (λe=>(e.key,e.val))=L.map (λp=>(enc p.1,p.2))):
  qX P (Instr.findKey kt (enc k) g) F (Ws k L 0):=by
 obtain ⟨d,hd,r⟩:=w.kind;unfold Instr.findKey;simp only [am];refine ⟨d,(az hd _).2 rfl,?_⟩;rcases r with r|r
 ·rw [tE r k g L 0 h];rfl
 ·cases g with
  |nil=>
   cases L with
   |nil=>rfl
   |cons _ _=>cases h
  |cons e g=>
   cases L with
   |nil=>cases h
   |cons p L=>
    have A:e.key=enc p.1:=by simp only [xA,List.cons.injEq,Ys] at h;exact h.1.1
    have:Instr.findNow d (enc k) (e::g) 0=I:=by simp only [Instr.findNow,A,r]
    rw [this];exact jw w k _ _ 0 h
theorem bL (D:fY P mt enc z) {r:Nat} {o:Obj} {m:K->Option Value} (O:F r=V o) (C:dW enc m o) (k:K) (ok:Bool):
  qX P (Instr.lookup mt (.map (V r)) (enc k) ok) F (if ok then .tuple #[(m k).getD z,.bool (m k).isSome] else (m k).getD z):=by
 obtain ⟨kt,e,E,J,h⟩:=D.ex;have g:=C.not_cells;obtain ⟨H,c,L,rfl,B,A⟩:=C;have N:=λw=>nz k w L 0;have G:=ny k z L 0;unfold Instr.lookup;simp only [am];refine ⟨_,(az E _).2 rfl,?_⟩;simp only [am];refine ⟨_,⟨_,O,g,rfl⟩,?_⟩;simp only [am];refine ⟨H,rfl,(),h.chk F _ k,?_⟩;cases hfd:Ws k L 0 with
 |none=>refine ⟨_,gx h k _ _ B,?_⟩;rw [hfd];simp only [am];refine ⟨z,(gH J _).2 rfl,_,rfl,?_⟩;rw [A,(G hfd).1];rfl
 |some q=>obtain ⟨j,v⟩:=q;obtain ⟨d,_,_,_,M,_⟩:=N z j v hfd;refine ⟨_,gx h k _ _ B,?_⟩;rw [hfd];simp only [am];refine ⟨_,rfl,?_⟩;rw [A,M];rfl
theorem bj (O:fY P mt enc z) {r:Nat} {o:Obj} {m:K->Option Value} (M:F r=V o) (N:dW enc m o) (k:K) (v:Value) {Q:Unit->PH->Prop}
  (h:∀o',dW enc (λk'=>if k'=k then V v else m k') o'->Q () (F.set r o')):aG P (Instr.mapUpdate mt (.map (V r)) (enc k) v) F Q:=by
 obtain ⟨kt,e,R,h2,J⟩:=O.ex;have A:=N.not_cells;obtain ⟨B,c,L,rfl,E,h4⟩:=N;have hf:=nz k v L 0;have W:=ny k v L 0;unfold Instr.mapUpdate;simp only [aD,bW R];refine ⟨_,M,A,?_⟩;rw [show (Sem.pure (Obj.map B c):Sem Obj)=pure (Obj.map B c) from rfl];simp only [aL,aD];refine g0 _ _ _ _ (J.chk F _ k) ?_;refine g0 _ _ _ _ (gx J k _ _ E) ?_;have D:∀k',(if k'=k then V v else m k')=lk k' (WP k v L):=λk'=>by rw [CJ,h4]
 cases hfd:Ws k L 0 with
 |none=>refine ⟨_,M,A,h _ ⟨_,_,WP k v L,rfl,?_,D⟩⟩;rw [(W hfd).2];simp [E]
 |some q=>
  obtain ⟨j,w⟩:=q;obtain ⟨d,hj,hd,X,h6,h7⟩:=hf j w hfd;obtain rfl:j=d:=by omega
  have H:B.size=L.length:=by simpa using congrArg List.length E
  have G:(B[j]?.map (·.key)).getD (enc k)=enc k:=by
   have:=congrArg (λl=>l[j]?) E;simp only [yw,X,VD] at this;have g:j<B.size:=by omega
   simp [g] at this ⊢;exact this.1
  simp only [aD,G,Instr.keyThatStays,J.same,if_true,aL];refine ⟨_,M,A,h _ ⟨_,_,WP k v L,rfl,?_,D⟩⟩;rw [h7];apply WH;intro i;have C:=congrArg (λl=>l[i]?) E;simp only [yw] at C;simp only [Array.toList_modify,yw,YJ,Yk];by_cases hi:j=i
  ·subst hi;have g:j<B.toList.length:=by simpa [H] using hd
   rw [N5 g];simp [hd]
  ·simp only [hi,if_false];simpa using C
end
theorem Wq {F:PH} {b o:Nat} {v:Value} {c:Array Value} {e:TypeId} {K:PH->Prop} (h:F b=V (Y c e (0,0))) (g:o<c.size) (k:K (F.set b (Y (c.setIfInBounds o v) e))):
  ∃c e,F (oB b o I).block=V (Y c e (0,0))/\(oB b o I).spot=I/\(oB b o I).off<c.size/\
   xJ (F.set (oB b o I).block (Y (c.setIfInBounds (oB b o I).off v) e)) K:=⟨c,e,h,rfl,g,k⟩
theorem tF {F:PH} {A:Addr} {b o:Nat} {v:Value} {c:Array Value} {e:TypeId} {K:PH->Prop} (r:A=⟨b,o,I⟩) (h:F b=V (Y c e (0,0))) (g:o<c.size) (k:K (F.set b (Y (c.setIfInBounds o v) e))):
  ∃c e,F A.block=V (Y c e (0,0))/\A.spot=I/\A.off<c.size/\xJ (F.set A.block (Y (c.setIfInBounds A.off v) e)) K:=by
 subst r;exact Wq h g k
theorem Lz {c d:Array Value} (h:c.size=d.size):wr c 0 d.toList=d:=by
 apply Array.ext
 ·rw [dJ,h]
 ·intro i g r;have:=xK d.toList c 0 i (by simp [h]);rw [Χ (by simp;omega)] at this;simp only [VV] at this;rw [Wv g] at this;simp at this;rw [Wv r] at this;exact yR this
theorem Uc {F:PH} {b n:Nat} {v c:Array Value} {e:TypeId} {K:PH->Prop} (h:F b=V (Y c e (0,0))) (r:v.size=n) (w:c.size=n) (g:∀x∈v.toList,ak x) (k:K (F.set b (Y v e))):
  v.size=n/\(∀x∈v.toList,ak x)/\∃c e,F (oB b 0 I).block=V (Y c e (0,0))/\(oB b 0 I).spot=I/\(oB b 0 I).off+n<=c.size/\
   xJ (F.set (oB b 0 I).block (Y (wr c (oB b 0 I).off v.toList) e)) K:=
 ⟨r,g,c,e,h,rfl,by simp [w],by
  unfold xJ;rw [show (oB b 0 I).off=0 from rfl,Lz (by rw [w,r])]
  exact k⟩
theorem ZR (v:Value) (h:v.cells= #[v]) (n:Nat):Builtin.zeroCells v.cells n=(List.replicate n v).toArray:=by
 rw [qL _ (by rw [h];rfl),h];congr 1;induction n with
 |zero=>rfl
 |succ n ih=>simp [List.replicate_succ,ih]
theorem YA {n:Nat} (h:n<=9223372036854775807):IntKind.i64.wrap (n:Int)=n:=aJ (by omega)
theorem fo {n:Nat} (h:n<9223372036854775807):IntKind.i64.wrap ((n:Int)+1)=((n+1:Nat):Int):=by rw [aJ (by omega)];omega
theorem jW (vs:List Value):∀(c:List Value) (o:Nat),o+vs.length<=c.length->wr c.toArray o vs=(c.take o++vs++c.drop (o+vs.length)).toArray:=by
 intro c o h;apply Array.ext
 ·rw [dJ];simp;omega
 ·intro i g r;have:=xK vs c.toArray o i (by simpa using h);rw [Wv g] at this;rw [dJ] at g;simp only [XB] at g;have w:(c.take o++vs++c.drop (o+vs.length)).toArray[i]=(c.take o++vs++c.drop (o+vs.length))[i]'(by simpa using r):=by simp
  rw [w];apply yR;rw [<- N5,this];by_cases hi:i<o
  ·rw [Υ (by omega),xZ,zM (by simp;omega)];simp [hi]
  ·by_cases A:i<o+vs.length
   ·rw [Χ ⟨by omega,A⟩,zM (by simp;omega),Ua (by simp;omega)];simp;congr 1;omega
   ·rw [Υ (by omega),Ua (by simp;omega)];simp;congr 1;omega
def bO (F:PH) (e size:Nat) (s:Sl) (vs:List Value):Prop:=
 (s=Sl.nil/\vs=[])\/∃b cur,s.qa5=V ⟨b,0,I⟩/\F b=V (Y cur e (0,0))/\cur.size=s.cap*size/\s.len<=s.cap/\vs.length=s.len*size/\cur.toList.take (s.len*size)=vs
theorem bO.rd {F:PH} {e size:Nat} {s:Sl} {vs:List Value} (h:bO F e size s vs):RdS F s size vs:=by
 rcases h with ⟨rfl,rfl⟩|⟨b,A,g,r,E,D,C,w⟩
 ·exact RdS.nil F size
 ·obtain ⟨B,len,cap⟩:=s;cases g;exact RdS.new r w C D
theorem bO.keep {F G:PH} {e size:Nat} {s:Sl} {vs:List Value} (h:bO F e size s vs) (A:∀a,s.qa5=V a->G a.block=F a.block):bO G e size s vs:=by
 rcases h with h|⟨b,g,r,w,B⟩
 ·exact .inl h
 ·exact .inr ⟨b,g,r,(A _ r).trans w,B⟩
theorem tG {F:PH} {s x:Sl} {t e size bytes ty:Nat} {z:Value} {P:Program} {B news:List Value} {Q:Value->PH->Prop} (ht:P.underlying t=V (.slice e)) (R:vy P e=V (size,bytes)) (hz:bv P e=V z) (D:z.cells.size=size) (N:0<size)
  (L:bO F e size s B) (w:RdS F x size news) (hx:0<x.len) (M:∀v∈news,ak v) (C:(s.len+x.len)*bytes<=140737488355328) (E:s.len+x.len<=9223372036854775807)
  (h:∀H K b o,K=F.set b o->bO K e size H (B++news)->H.len=s.len+x.len->(∀a,H.qa5=V a->a.block=b)->((∃a,s.qa5=V a/\a.block=b)\/F b=I)->Q H.v K):
  aG P (Builtin.append_ #[t,t] ty #[s.v,x.v]) F Q:=by
 have W:0<x.len*size:=Nat.mul_pos hx N;have A:=L.rd.len;refine gu ht R hz D L.rd w M C E (λh0=>by omega) ?_ ?_
 ·intro _ g;rcases L with ⟨rfl,rfl⟩|⟨b,r,G,h2,h3,h4,O,h6⟩
  ·simp [Sl.nil] at g;omega
  ·have a0:s.len*size+x.len*size<=r.size:=by rw [h3,<- Wn];exact Xj _ g
   refine ⟨b,0,r,e,G,h2,by omega,?_⟩;refine h ⟨_,_,_⟩ _ b _ rfl (.inr ⟨b,_,G,aq _ _ _,by rw [dJ,h3],g,by simp [O,w.len,Wn],?_⟩) rfl (λa J=>by rw [G] at J;cases J;rfl) (.inl ⟨_,G,rfl⟩);simp only [x9];have X:=jW news r.toList (s.len*size) (by simp [w.len];omega);rw [show r.toList.toArray=r by simp] at X;rw [X];simp only;rw [h6,Wn];rw [Xi (by simp [O,w.len]),zh (by simp [O,w.len])]
 ·intro hgt cap b hc hb;refine h ⟨_,_,_⟩ _ b _ rfl (.inr ⟨b,_,rfl,aq _ _ _,?_,hc,by simp [A,w.len,Wn],?_⟩) rfl (λa J=>by cases J;rfl) (.inr hb)
  ·simp [Builtin.zeroCells,D,A,w.len];rw [<- Wn,<- Wn];congr 1;omega
  ·simp only [Yf,Zj];rw [Xi (by simp [A,w.len,Wn]),zh (by simp [A,w.len,Wn])]
theorem pe {F:PH} {s x:Sl} {t e size bytes K:Nat} {z:Value} {P:Program} {w news:List Value} {Q:Value->PH->Prop} (J:P.underlying t=V (.slice e)) (D:vy P e=V (size,bytes)) (L:bv P e=V z) (E:z.cells.size=size)
  (H:bO F e size s w) (G:RdS F x size news) (r:x.len=0) (A:s.len*bytes<=140737488355328) (B:s.len<=9223372036854775807)
  (h:Q s.v F):aG P (Builtin.append_ #[t,t] K #[s.v,x.v]) F Q:=by
 have g:news=[]:=Wm (by rw [G.len,r,Wp]);subst g;refine gu J D L E H.rd G (by simp) (by rw [r];exact A) (by rw [r];exact B) (λ_ _=> ?_) (λC=> ?_) (λC=> ?_)
 ·rw [r];exact h
 ·rw [r] at C;simp at C
 ·have:=H.rd.cap;omega
theorem iO {F0 F:PH} {s x:Sl} {t e size bytes ty:Nat} {z:Value} {P:Program} {B news:List Value} {Q:Value->PH->Prop} (ht:P.underlying t=V (.slice e)) (M:vy P e=V (size,bytes)) (hz:bv P e=V z) (L:z.cells.size=size) (a0:0<size)
  (G:F0.le F) (W:bO F e size s B) (A:∀a,s.qa5=V a->F0 a.block=I) (K:RdS F x size news) (X:∀v∈news,ak v) (g:(s.len+x.len)*bytes<=140737488355328) (N:s.len+x.len<=9223372036854775807)
  (h:∀C H,F0.le H->bO H e size C (B++news)->C.len=s.len+x.len->(∀a,C.qa5=V a->F0 a.block=I)->dk (λb=>∃a,s.qa5=V a/\a.block=b) F H->(∀a,C.qa5=V a->(∃a',s.qa5=V a'/\a'.block=a.block)\/F a.block=I)->Q C.v H):
  aG P (Builtin.append_ #[t,t] ty #[s.v,x.v]) F Q:=by
 by_cases h0:x.len=0
 ·have J:news=[]:=Wm (by rw [K.len,h0,Wp]);refine pe ht M hz L W K h0 (by rw [h0] at g;exact g) (by omega) ?_;refine h s F G (by rw [J,yt];exact W) (by omega) A (dk.refl _ _) (λa E=> .inl ⟨a,E,rfl⟩)
 ·refine tG ht M hz L a0 W K (by omega) X g N ?_;rintro C H b ob rfl R a1 r w;have O:F0 b=I:=by
   rcases w with ⟨a,E,rfl⟩|w
   ·exact A a E
   ·exact aT G w
  refine h C _ (λy o D=> ?_) R a1 (λa E=>by rw [r a E];exact O) (λy o D K=> ?_) (λa E=> ?_)
  ·rw [aw _ _ (λe=>by rw [e,O] at D;cases D)];exact G _ _ D
  ·rw [aw]
   ·exact D
   ·rintro rfl;rcases w with w|w
    ·exact K w
    ·rw [w] at D;cases D
  ·rw [r a E];exact w
theorem ai {F:PH} {b e:Nat} {c:Array Value} {fr:Nat×Nat} (h:F b=V (Y c e fr)):F.row (oB b 0 I) c:=by intro i hi;rw [aI,av h];simp
theorem aB {F0 F:PH} {b:Nat} {o:Obj} (h:F0.le F) (r:F0 b=I):F0.le (F.set b o):=λy w g=>by rw [aw _ _ (λe=>by rw [e,r] at g;cases g)];exact h _ _ g
theorem aj.upon {P:Program} {f:FuncId} {args:Array Value} {F F2:PH} {R:Value->PH->Prop} (h:aj P f args F R) (r:F.le F2):
  aj P f args F2 λv w=>∃G,R v G/\G.le w/\∀b o,F b=I->F2 b=V o->w b=V o/\G b=I:=by
 have e:F2=F.and (λb=>if (F b).isNone then F2 b else I):=by
  funext b;cases hf:F b with
  |some o=>rw [PH.and_left hf];exact r b o hf
  |none=>rw [PH.and_right hf];simp [hf]
 have g:=h.beside (H:=λb=>if (F b).isNone then F2 b else I) (λb o g=>by
  cases hf:F b with
  |some E=>simp [hf] at g
  |none=>rfl)
 rw [<- e] at g;refine g.mono ?_;rintro v w ⟨G,C,rfl,hd⟩;refine ⟨G,C,λb o g=>PH.and_left g,λb o g D=> ?_⟩;have A:(λb=>if (F b).isNone then F2 b else I) b=V o:=by simp [g,D]
 have B:=hd b o A;exact ⟨(PH.and_right B).trans A,B⟩
inductive Tr where
 |qa6 (b:Bool)
 |qa7 (v:Nat) (l h:Tr)
deriving DecidableEq
abbrev Cf:=Nat->Bool
def Cf.set (c:Cf) (v:Nat) (b:Bool):Cf:=λi=>if i=v then b else c i
namespace Tr
def top:Tr->Nat
 |qa6 _=>64
 |qa7 v _ _=>v
def ev:Tr->Cf->Bool
 |qa6 b,_=>b
 |qa7 v l h,c=>if c v=nk then h.ev c else l.ev c
def ok:Tr->Prop
 |qa6 _=>True
 |qa7 v l h=>v<64/\v<l.top/\v<h.top/\l≠h/\l.ok/\h.ok
def sz:Tr->Nat
 |qa6 _=>1
 |qa7 _ l h=>l.sz+h.sz+1
def mk (v:Nat) (l h:Tr):Tr:=if l=h then l else qa7 v l h
def lo (v:Nat):Tr->Tr
 |qa6 b=>qa6 b
 |qa7 w l h=>if w=v then l else qa7 w l h
def hi (v:Nat):Tr->Tr
 |qa6 b=>qa6 b
 |qa7 w l h=>if w=v then h else qa7 w l h
def isL:Tr->Bool
 |qa6 _=>nk
 |qa7 _ _ _=>mD
theorem tH {t:Tr} (h:t.ok) (g:t.isL=mD):t.top<64:=by
 cases t with
 |qa6 b=>cases g
 |qa7 v l r=>exact h.1
theorem lC:∀(t:Tr),0<t.sz
 |qa6 _=>Nat.one_pos
 |qa7 _ _ _=>Nat.succ_pos _
theorem tI:∀(t:Tr),t.ok->∀(c d:Cf),(∀i,t.top<=i->c i=d i)->t.ev c=t.ev d
 |qa6 _,_,_,_,_=>rfl
 |qa7 v l h,⟨_,h1,h2,_,h4,h5⟩,c,d,hc=>by simp only [ev];rw [hc v (ru _),tI l h4 c d (λi hi=>hc i (by simp only [top];omega)),tI h h5 c d (λi hi=>hc i (by simp only [top];omega))]
theorem lD {t:Tr} (h:t.ok) {v:Nat} (g:v<t.top) (c:Cf) (b:Bool):t.ev (c.set v b)=t.ev c:=
 tI t h _ _ λi hi=>by unfold Cf.set;rw [Υ (by omega)]
theorem qfh:∀(n:Nat) (a b:Tr),a.sz+b.sz<=n->a.ok->b.ok->(∀c,a.ev c=b.ev c)->a=b:=by
 intro n;induction n with
 |zero=>intro a b B;have:=lC a;omega
 |succ n ih=>
  have key:∀(v:Nat) (l h b:Tr),(qa7 v l h).sz+b.sz<=n+1->(qa7 v l h).ok->b.ok->v<b.top->(∀c,(qa7 v l h).ev c=b.ev c)->False:=by
   rintro v l h b B ⟨h0,A,F,X,N,M⟩ r P g;have hp:=lC b;simp only [sz] at B;refine X (ih l h (by omega) N M λc=> ?_);have D:=g (c.set v mD);have C:=g (c.set v nk);rw [lD r P] at D C;have Q:(qa7 v l h).ev (c.set v mD)=l.ev c:=by simp only [ev];rw [Υ (by simp [Cf.set]),lD N A]
   have f2:(qa7 v l h).ev (c.set v nk)=h.ev c:=by simp only [ev];rw [Χ (by simp [Cf.set]),lD M F]
   rw [<- Q,<- f2,D,C]
  intro a b B E r g;cases a with
  |qa6 x=>
   cases b with
   |qa6 y=>exact congrArg qa6 (g (λ_=>mD))
   |qa7 v l h=>exact (key v l h (qa6 x) (by omega) r trivial r.1 (λc=>(g c).symm)).elim
  |qa7 v l h=>
   by_cases A:v<b.top
   ·exact (key v l h b B E r A g).elim
   cases b with
   |qa6 y=>exact (A E.1).elim
   |qa7 w H G=>
    simp only [top] at A;by_cases F:w<v
    ·exact (key w H G (qa7 v l h) (by omega) r E F (λc=>(g c).symm)).elim
    obtain rfl:v=w:=by omega
    obtain ⟨h0,a1,a2,a3,O,J⟩:=E;obtain ⟨_,W,R,b3,L,K⟩:=r;simp only [sz] at B;have D:l=H:=ih l H (by omega) O L λc=>by have:=g (c.set v mD);simp only [ev] at this;rw [Υ (by simp [Cf.set]),Υ (by simp [Cf.set]),lD O a1,lD L W] at this;exact this
    have C:h=G:=ih h G (by omega) J K λc=>by have:=g (c.set v nk);simp only [ev] at this;rw [Χ (by simp [Cf.set]),Χ (by simp [Cf.set]),lD J a2,lD K R] at this;exact this
    rw [D,C]
theorem eq_of_ev {a b:Tr} (g:a.ok) (h:b.ok) (r:∀c,a.ev c=b.ev c):a=b:=qfh _ a b (ru _) g h r
theorem Fx {v:Nat} {l h:Tr} (B:v<64) (r:v<l.top) (A:v<h.top) (g:l.ok) (C:h.ok):(mk v l h).ok:=by
 unfold mk;split
 ·exact g
 ·rename_i w;exact ⟨B,r,A,w,g,C⟩
theorem Ts {v:Nat} {l h:Tr} (g:v<l.top):v<=(mk v l h).top:=by
 unfold mk;split
 ·omega
 ·exact ru _
theorem QY (v:Nat) (l h:Tr) (c:Cf):(mk v l h).ev c=if c v=nk then h.ev c else l.ev c:=by
 unfold mk;split
 ·rename_i e;subst e;simp
 ·rfl
theorem cx {t:Tr} (h:t.ok) {v:Nat} (C:v<=t.top):(lo v t).ok/\(v<64->v<(lo v t).top)/\(lo v t).sz<=t.sz/\(t.top=v->t.isL=mD->(lo v t).sz<t.sz)/\
  ∀c,c v=mD->(lo v t).ev c=t.ev c:=by
 cases t with
 |qa6 b=>exact ⟨trivial,λh=>h,ru _,λ_ h=>(by cases h),λ_ _=>rfl⟩
 |qa7 w l r=>
  obtain ⟨F,g,B,G,A,E⟩:=h;simp only [lo];split
  ·rename_i e;subst e;refine ⟨A,λ_=>g,by simp only [sz];omega,λ_ _=>by simp only [sz];omega,λc D=> ?_⟩;simp [ev,D]
  ·rename_i e;refine ⟨⟨F,g,B,G,A,E⟩,λ_=> ?_,ru _,λH=> ?_,λ_ _=>rfl⟩
   ·simp only [top] at C ⊢;omega
   ·simp only [top] at H;omega
theorem cy {t:Tr} (h:t.ok) {v:Nat} (C:v<=t.top):(hi v t).ok/\(v<64->v<(hi v t).top)/\(hi v t).sz<=t.sz/\(t.top=v->t.isL=mD->(hi v t).sz<t.sz)/\
  ∀c,c v=nk->(hi v t).ev c=t.ev c:=by
 cases t with
 |qa6 b=>exact ⟨trivial,λh=>h,ru _,λ_ h=>(by cases h),λ_ _=>rfl⟩
 |qa7 w l r=>
  obtain ⟨E,B,g,G,F,A⟩:=h;simp only [hi];split
  ·rename_i e;subst e;refine ⟨A,λ_=>g,by simp only [sz];omega,λ_ _=>by simp only [sz];omega,λc D=> ?_⟩;simp [ev,D]
  ·rename_i e;refine ⟨⟨E,B,g,G,F,A⟩,λ_=> ?_,ru _,λH=> ?_,λ_ _=>rfl⟩
   ·simp only [top] at C ⊢;omega
   ·simp only [top] at H;omega
abbrev Wr:=Bool->Bool->Bool->Bool
def aX (a b d:Tr):Nat:=min (min a.top b.top) d.top
theorem qfi (o:Wr):∀(n:Nat) (a b d:Tr),a.sz+b.sz+d.sz<=n->a.ok->b.ok->d.ok->
  ∃t:Tr,t.ok/\aX a b d<=t.top/\∀c,t.ev c=o (a.ev c) (b.ev c) (d.ev c):=by
 intro n;induction n with
 |zero=>intro a b d hn;have:=lC a;omega
 |succ n ih=>
  intro a b d hn ha hb hd;by_cases h:aX a b d<64
  ·have E:aX a b d<=a.top:=by unfold aX;omega
   have D:aX a b d<=b.top:=by unfold aX;omega
   have C:aX a b d<=d.top:=by unfold aX;omega
   have g:aX a b d=a.top\/aX a b d=b.top\/aX a b d=d.top:=by unfold aX;omega
   revert g;revert E D C h;generalize aX a b d=v;intro h E D C g;have A:∀{t:Tr},v=t.top->t.isL=mD:=λ{t} e=>by
    cases t with
    |qa6 b=>simp only [top] at e;omega
    |qa7 _ _ _=>rfl
   obtain ⟨a0,H,b7,a1,X⟩:=cx ha E;obtain ⟨a7,a3,b6,a9,a2⟩:=cx hb D;obtain ⟨b1,G,b8,O,W⟩:=cx hd C;obtain ⟨b0,M,b4,b2,J⟩:=cy ha E;obtain ⟨K,a4,b5,L,F⟩:=cy hb D;obtain ⟨R,a5,b9,N,a6⟩:=cy hd C;have a8:(lo v a).sz+(lo v b).sz+(lo v d).sz<=n:=by
    rcases g with e|e|e
    ·have:=a1 e.symm (A e);omega
    ·have:=a9 e.symm (A e);omega
    ·have:=O e.symm (A e);omega
   have P:(hi v a).sz+(hi v b).sz+(hi v d).sz<=n:=by
    rcases g with e|e|e
    ·have:=b2 e.symm (A e);omega
    ·have:=L e.symm (A e);omega
    ·have:=N e.symm (A e);omega
   obtain ⟨tl,l1,l2,l3⟩:=ih _ _ _ a8 a0 a7 b1;obtain ⟨th,h1,h2,h3⟩:=ih _ _ _ P b0 K R;have B:v<tl.top:=by have:=H h;have:=a3 h;have:=G h;unfold aX at l2;omega
   have b3:v<th.top:=by have:=M h;have:=a4 h;have:=a5 h;unfold aX at h2;omega
   refine ⟨mk v tl th,Fx h B b3 l1 h1,Ts B,λc=> ?_⟩;rw [QY];split
   ·rename_i r;rw [h3,J c r,F c r,a6 c r]
   ·rename_i r;have r:c v=mD:=by simpa using r
    rw [l3,X c r,a2 c r,W c r]
  ·have w:∀{t:Tr},t.ok->64<=t.top->∃b,t=qa6 b:=λ{t} ht Q=>by
    cases t with
    |qa6 b=>exact ⟨b,rfl⟩
    |qa7 _ _ _=>have:=ht.1;simp only [top] at Q;omega
   unfold aX at h;obtain ⟨x,rfl⟩:=w ha (by omega);obtain ⟨y,rfl⟩:=w hb (by omega);obtain ⟨z,rfl⟩:=w hd (by omega);exact ⟨qa6 (o x y z),trivial,by simp [aX,top],λc=>rfl⟩
noncomputable def ZI (f:Cf->Bool):Tr:=open Classical in if h:∃t:Tr,t.ok/\∀c,t.ev c=f c then h.choose else qa6 mD
theorem xQ {f:Cf->Bool} {t:Tr} (h:t.ok) (r:∀c,t.ev c=f c):ZI f=t:=by have g:∃t:Tr,t.ok/\∀c,t.ev c=f c:=⟨t,h,r⟩;unfold ZI;rw [dif_pos g];exact eq_of_ev g.choose_spec.1 h λc=>(g.choose_spec.2 c).trans (r c).symm
noncomputable def ap (o:Wr) (a b d:Tr):Tr:=ZI λc=>o (a.ev c) (b.ev c) (d.ev c)
section
variable {o:Wr} {a b d:Tr} (ha:a.ok) (hb:b.ok) (hd:d.ok)
include ha hb hd
theorem fq:(ap o a b d).ok/\aX a b d<=(ap o a b d).top/\∀c,(ap o a b d).ev c=o (a.ev c) (b.ev c) (d.ev c):=by obtain ⟨t,g,r,h⟩:=qfi o _ a b d (ru _) ha hb hd;have:ap o a b d=t:=xQ g h;rw [this];exact ⟨g,r,h⟩
theorem LA:(ap o a b d).ok:=(fq ha hb hd).1
theorem xR (g:aX a b d<64):ap o a b d=mk (aX a b d) (ap o (lo (aX a b d) a) (lo (aX a b d) b) (lo (aX a b d) d)) (ap o (hi (aX a b d) a) (hi (aX a b d) b) (hi (aX a b d) d)):=by
 have A:aX a b d<=a.top:=by unfold aX;omega
 have w:aX a b d<=b.top:=by unfold aX;omega
 have r:aX a b d<=d.top:=by unfold aX;omega
 revert A w r g;generalize aX a b d=v;intro g A w r;obtain ⟨M,D,a8,b1,L⟩:=cx ha A;obtain ⟨W,O,a7,b2,N⟩:=cx hb w;obtain ⟨a0,C,a9,a6,K⟩:=cx hd r;obtain ⟨X,G,a2,b3,E⟩:=cy ha A;obtain ⟨F,P,a4,a3,B⟩:=cy hb w;obtain ⟨J,Q,b0,a5,R⟩:=cy hd r;obtain ⟨l1,l2,l3⟩:=fq (o:=o) M W a0;obtain ⟨h1,h2,h3⟩:=fq (o:=o) X F J;have H:v<(ap o (lo v a) (lo v b) (lo v d)).top:=by have:=D g;have:=O g;have:=C g;unfold aX at l2;omega
 have a1:v<(ap o (hi v a) (hi v b) (hi v d)).top:=by have:=G g;have:=P g;have:=Q g;unfold aX at h2;omega
 refine xQ (Fx g H a1 l1 h1) λc=> ?_;rw [QY];split
 ·rename_i h;rw [h3,E c h,B c h,R c h]
 ·rename_i h;have h:c v=mD:=by simpa using h
  rw [l3,L c h,N c h,K c h]
end
theorem nA (o:Wr) (x y z:Bool):ap o (qa6 x) (qa6 y) (qa6 z)=qa6 (o x y z):=xQ trivial λ_=>rfl
theorem gy {t:Tr} (h:t.ok) (g:64<=t.top):∃b,t=qa6 b:=by
 cases t with
 |qa6 b=>exact ⟨b,rfl⟩
 |qa7 _ _ _=>have:=h.1;simp only [top] at g;omega
end Tr
open Tr
structure Br where
 v:Int
 l:Int
 h:Int
deriving DecidableEq
def inn (S:List Tr) (t:Tr):Prop:=t.isL=nk\/t∈S
def num (S:List Tr):Tr->Nat
 |qa6 b=>if b then 1 else 0
 |qa7 v l h=>S.idxOf (qa7 v l h)+2
def br (S:List Tr):Tr->Br
 |qa6 _=>⟨0,0,0⟩
 |qa7 v l h=>⟨(v:Int),(num S l:Int),(num S h:Int)⟩
def brs (S:List Tr):List Br:=S.map (br S)
inductive Cl:List Tr->Prop
 |nil:Cl []
 |snoc {S:List Tr} {v:Nat} {l h:Tr}:Cl S->inn S l->inn S h->(qa7 v l h).ok->qa7 v l h ∉ S->Cl (S++[qa7 v l h])
theorem bX {S X:List Tr} {t:Tr} (h:inn S t):inn (S++X) t:=h.imp id λh=>Zg X h
theorem fZ (S:List Tr) (b:Bool):inn S (qa6 b):=.inl rfl
theorem cC {S:List Tr} {t:Tr} (h:inn S t) (g:t.isL=mD):t∈S:=h.resolve_left (by rw [g];exact YM)
theorem bM {S X:List Tr} {t:Tr} (h:inn S t):num (S++X) t=num S t:=by
 cases t with
 |qa6 b=>rfl
 |qa7 v l r=>have g:=cC h rfl;simp only [num,List.idxOf_append,g,if_true]
namespace Cl
theorem mem {S:List Tr} (h:Cl S):∀t∈S,t.ok/\∃v l r,t=qa7 v l r/\inn S l/\inn S r:=by
 induction h with
 |nil=>intro t g;cases g
 | @snoc S v l r L J G E K ih=>
  intro t g;rcases vj.1 g with g|g
  ·obtain ⟨w,D,B,C,A,H,F⟩:=ih t g;exact ⟨w,D,B,C,A,bX H,bX F⟩
  ·obtain rfl:=vu.1 g;exact ⟨E,v,l,r,rfl,bX J,bX G⟩
theorem nodup {S:List Tr} (h:Cl S):S.Nodup:=by
 induction h with
 |nil=>exact List.nodup_nil
 | @snoc S v l r B E D C w ih=>rw [VB];refine ⟨ih,by simp,?_⟩;intro a A b g;rw [vu] at g;subst g;rintro rfl;exact w A
theorem inn_ok {S:List Tr} (h:Cl S) {t:Tr} (g:inn S t):t.ok:=by
 cases t with
 |qa6 b=>trivial
 |qa7 v l r=>exact (h.mem _ (cC g rfl)).1
theorem inn_kids {S:List Tr} (h:Cl S) {v:Nat} {l r:Tr} (g:inn S (qa7 v l r)):inn S l/\inn S r:=by obtain ⟨_,D,B,C,e,A,w⟩:=h.mem _ (cC g rfl);cases e;exact ⟨A,w⟩
theorem inn_lo {S:List Tr} (h:Cl S) {t:Tr} (g:inn S t) (v:Nat):inn S (lo v t):=by
 cases t with
 |qa6 b=>exact g
 |qa7 w l r=>
  simp only [lo];split
  ·exact (h.inn_kids g).1
  ·exact g
theorem inn_hi {S:List Tr} (h:Cl S) {t:Tr} (g:inn S t) (v:Nat):inn S (hi v t):=by
 cases t with
 |qa6 b=>exact g
 |qa7 w l r=>
  simp only [hi];split
  ·exact (h.inn_kids g).2
  ·exact g
end Cl
theorem dP {S:List Tr} {t:Tr} (h:inn S t):num S t<=S.length+1:=by
 cases t with
 |qa6 b=>simp only [num];split<;>omega
 |qa7 v l r=>have:=List.idxOf_lt_length_of_mem (cC h rfl);simp only [num];omega
theorem cY {S:List Tr} {t:Tr} (h:t.isL=mD):2<=num S t:=by
 cases t with
 |qa6 b=>cases h
 |qa7 v l r=>simp only [num];omega
theorem qM {S:List Tr} {t:Tr} (h:num S t<2):t.isL=nk:=by
 cases t with
 |qa6 b=>rfl
 |qa7 v l r=>simp only [num] at h;omega
theorem cK (S:List Tr) (b:Bool):num S (qa6 b)<=1:=by simp only [num];split<;>omega
theorem eB {S:List Tr} {t:Tr} (h:t∈S) (w:t.isL=mD):S[num S t - 2]? =V t:=by
 cases t with
 |qa6 b=>cases w
 |qa7 v l r=>have g:=List.idxOf_lt_length_of_mem h;simp only [num,Nat.add_sub_cancel];rw [N5 g,List.getElem_idxOf]
theorem cM {S:List Tr} {t u:Tr} (A:inn S t) (w:inn S u) (h:num S t=num S u):t=u:=by
 cases ht':t.isL with
 |true=>
  cases hu':u.isL with
  |true=>
   cases t with
   |qa7 _ _ _=>cases ht'
   |qa6 a=>
    cases u with
    |qa7 _ _ _=>cases hu'
    |qa6 b=>simp only [num] at h;cases a<;>cases b<;>simp at h ⊢
  |false=>
   have g:=cY (S:=S) hu';cases t with
   |qa7 _ _ _=>cases ht'
   |qa6 a=>have r:num S (qa6 a)<=1:=cK S a;omega
 |false=>
  cases hu':u.isL with
  |true=>
   have g:=cY (S:=S) ht';cases u with
   |qa7 _ _ _=>cases hu'
   |qa6 a=>have r:num S (qa6 a)<=1:=cK S a;omega
  |false=>have g:=eB (cC A ht') ht';have r:=eB (cC w hu') hu';rw [h,r] at g;exact (yR g).symm
theorem dQ {S:List Tr} (w:Cl S) {k:Nat} {t:Tr} (h:S[k]? =V t):num S t=k+2:=by
 have C:k<S.length:=(N6.1 h).1;have g:t∈S:=vO h;obtain ⟨_,v,l,r,rfl,_⟩:=w.mem t g;have B:=List.idxOf_lt_length_of_mem g;have A:S[S.idxOf (qa7 v l r)]=S[k]:=by rw [List.getElem_idxOf];exact (N6.1 h).2.symm
 have:=(List.getElem_inj w.nodup).1 A;simp only [num];omega
def tr (S:List Tr) (n:Nat):Tr:=
 if n=0 then qa6 mD else if n=1 then qa6 nk else S.getD (n - 2) (qa6 mD)
theorem gI {S:List Tr} {n:Nat} (h:n<=S.length+1):inn S (tr S n):=by
 unfold tr;split
 ·exact fZ _ _
 ·split
  ·exact fZ _ _
  ·refine .inr ?_;rw [QX,N5 (by omega)];exact Vc _
theorem f7 {S:List Tr} (r:Cl S) {n:Nat} (h:n<=S.length+1):num S (tr S n)=n:=by
 unfold tr;split
 ·rename_i e;subst e;rfl
 ·split
  ·rename_i e;subst e;rfl
  ·have g:n - 2<S.length:=by omega
   have:=dQ r (k:=n - 2) (t:=S[n - 2]) (N5 g);rw [QX,N5 g];simp only [Option.getD_some];omega
theorem oC {S:List Tr} (g:Cl S) {t:Tr} (h:inn S t):tr S (num S t)=t:=
 cM (gI (dP h)) h (f7 g (dP h))
theorem GO {S X:List Tr} (g:Cl S) {t:Tr} (h:t∈S):br (S++X) t=br S t:=by obtain ⟨_,v,l,r,rfl,A,w⟩:=g.mem t h;simp only [br,bM A,bM w]
theorem tJ {S X:List Tr} (g:Cl S):brs (S++X)=brs S++X.map (br (S++X)):=by unfold brs;rw [yW];congr 1;exact List.map_congr_left λt h=>GO g h
theorem eC {S:List Tr} (g:Cl S) {v:Nat} {l r:Tr} (w:inn S l) (h:inn S r):brs (S++[qa7 v l r])=brs S++[⟨(v:Int),(num S l:Int),(num S r:Int)⟩]:=by rw [tJ g];simp only [xA,List.map_nil,br,bM w,bM h]
theorem aO (S:List Tr):(brs S).length=S.length:=by simp [brs]
theorem jX {S:List Tr} {k:Nat} {t:Tr} (h:S[k]? =V t):(brs S)[k]? =V (br S t):=by simp [brs,h]
theorem LB {S:List Tr} (A:Cl S) {t u:Tr} (B:t∈S) (D:u∈S) (h:br S t=br S u):t=u:=by obtain ⟨_,v,l,r,rfl,F,E⟩:=A.mem t B;obtain ⟨_,C,J,K,rfl,w,g⟩:=A.mem u D;simp only [br,Br.mk.injEq] at h;obtain ⟨G,H,L⟩:=h;rw [cM F w (by omega),cM E g (by omega),show v=C by omega]
theorem qN {S T:List Tr} (B:Cl S):Cl T->brs S=brs T->S=T:=by
 intro A;induction B generalizing T with
 |nil=>
  intro h;cases T with
  |nil=>rfl
  |cons a b=>have:=congrArg List.length h;simp [brs] at this
 | @snoc S v l r B D E K L ih=>
  intro h;cases A with
  |nil=>have:=congrArg List.length h;simp [brs] at this
  | @snoc T J Q M A w g H G=>rw [eC B D E,eC A w g] at h;obtain ⟨F,C⟩:=List.append_inj' h rfl;obtain rfl:=ih A F;simp only [List.cons.injEq,Br.mk.injEq,and_true] at C;obtain ⟨P,O,N⟩:=C;rw [cM D w (by omega),cM E g (by omega),show v=J by omega]
def tY:Tr->List Tr->List Tr
 |qa6 _,S=>S
 |qa7 v l h,S=>if qa7 v l h∈S then S else tY h (tY l S)++[qa7 v l h]
theorem gz {S:List Tr} {t:Tr} (h:inn S t):tY t S=S:=by
 cases t with
 |qa6 b=>rfl
 |qa7 v l r=>unfold tY;rw [Χ (cC h rfl)]
theorem bq:∀(t:Tr) (S:List Tr),t.ok->Cl S->Cl (tY t S)/\inn (tY t S) t/\(∃X,tY t S=S++X/\∀x∈X,x.sz<=t.sz)
 |qa6 b,S,_,hS=>⟨hS,fZ _ _,[],by simp [tY],λx h=>by cases h⟩
 |qa7 v l r,S,hk,hS=>by
  unfold tY;split
  ·rename_i A;exact ⟨hS,.inr A,[],by simp,λx h=>by cases h⟩
  ·rename_i A;obtain ⟨F,J,X,E,D⟩:=bq l S hk.2.2.2.2.1 hS;obtain ⟨G,K,L,B,C⟩:=bq r (tY l S) hk.2.2.2.2.2 F;have H:qa7 v l r ∉ tY r (tY l S):=by
    rw [B,E];intro g;rcases vj.1 g with g|g
    ·rcases vj.1 g with g|g
     ·exact A g
     ·have:=D _ g;simp only [sz] at this;omega
    ·have:=C _ g;simp only [sz] at this;omega
   refine ⟨.snoc G (by rw [B];exact bX J) K hk H,.inr (by simp),X++L++[qa7 v l r],by rw [B,E];simp,λx w=> ?_⟩;simp only [vj,vu,or_assoc] at w;rcases w with w|w|w
   ·have:=D x w;simp only [sz];omega
   ·have:=C x w;simp only [sz];omega
   ·rw [w];exact ru _
def aU (t:Tr):List Tr:=tY t []
theorem bz {t:Tr} (h:t.ok):Cl (aU t):=(bq t [] h .nil).1
theorem bH {t:Tr} (h:t.ok):inn (aU t) t:=(bq t [] h .nil).2.1
abbrev wa:=List Br×Int
def pj (t:Tr):wa:=(brs (aU t),(num (aU t) t:Int))
theorem xS {t u:Tr} (g:t.ok) (r:u.ok) (h:pj t=pj u):t=u:=by unfold pj at h;simp only [Ys] at h;obtain ⟨A,B⟩:=h;have w:=qN (bz g) (bz r) A;rw [<- w] at B;refine cM (bH g) ?_ (by omega);rw [w];exact bH r
def Xp:Tr->Nat
 |qa6 _=>0
 |qa7 _ l h=>Xp l+Xp h+1
theorem lH:∀(t:Tr) (S:List Tr),(tY t S).length<=S.length+Xp t
 |qa6 _,_=>ru _
 |qa7 v l r,S=>by
  unfold tY;split
  ·omega
  ·have g:=lH l S;have h:=lH r (tY l S);simp only [tT,Ub,Xp];omega
theorem pf (t:Tr):(aU t).length<=Xp t:=by have:=lH t [];simpa [aU] using this
open Go.Proofs.Tryz
theorem X6:vy prog 3=V (1,8):=by kernel_rfl
theorem sz9:vy prog 9=V (1,16):=by kernel_rfl
theorem aaE:vy prog 30=V (1,24):=by kernel_rfl
theorem aaF:vy prog 33=V (2,32):=by kernel_rfl
theorem aaG:vy prog 41=V (1,8):=by kernel_rfl
theorem aaH:vy prog 47=V (4,32):=by kernel_rfl
theorem aaI:vy prog 64=V (13,160):=by kernel_rfl
theorem aaJ:vy prog 66=V (3,24):=by kernel_rfl
theorem aaK:vy prog 80=V (2,24):=by kernel_rfl
theorem QZ:vy prog 130=V (2,16):=by kernel_rfl
theorem qfj:vy prog 137=V (4,56):=by kernel_rfl
theorem qfk:vy prog 140=V (5,56):=by kernel_rfl
theorem qfl:vy prog 166=V (7,112):=by kernel_rfl
theorem Fy:vy prog 201=V (3,24):=by kernel_rfl
theorem qfm:vy prog 223=V (2,32):=by kernel_rfl
theorem qfn:vy prog 233=V (9,104):=by kernel_rfl
theorem qfo:vy prog 236=V (4,64):=by kernel_rfl
theorem Q0:vy prog 313=V (3,24):=by kernel_rfl
theorem X8:bv prog 3=V (Value.int .i64 0):=by kernel_rfl
theorem zr9:bv prog 9=V (Value.string ⟨#[]⟩):=by kernel_rfl
theorem aaL:bv prog 30=V (Value.slice I 0 0):=by kernel_rfl
theorem Tt:bv prog 33=V (Value.agg (#[Value.slice I 0 0,Value.int .i64 0])):=by kernel_rfl
theorem aaM:bv prog 41=V (Value.int .u64 0):=by kernel_rfl
theorem aaN:bv prog 47=V (Value.agg (#[Value.int .i64 0,Value.int .i64 0,Value.int .i64 0,Value.int .i64 0])):=by kernel_rfl
theorem aaO:bv prog 64=V (Value.agg (#[Value.string ⟨#[]⟩,Value.int .i64 0,Value.slice I 0 0,Value.slice I 0 0,Value.int .i64 0,Value.bool mD,Value.int .i64 0,Value.slice I 0 0,Value.bool mD,Value.int .i64 0,Value.int .i64 0,Value.int .i64 0,Value.int .i64 0])):=by kernel_rfl
theorem aaP:bv prog 66=V (Value.agg (#[Value.int .i64 0,Value.int .i64 0,Value.int .i64 0])):=by kernel_rfl
theorem aaQ:bv prog 80=V (Value.agg (#[Value.string ⟨#[]⟩,Value.int .i64 0])):=by kernel_rfl
theorem Q1:bv prog 130=V (Value.agg (#[Value.bool mD,Value.int .i64 0])):=by kernel_rfl
theorem qfp:bv prog 137=V (Value.agg (#[Value.int .i64 0,Value.int .i64 0,Value.string ⟨#[]⟩,Value.slice I 0 0])):=by kernel_rfl
theorem qfq:bv prog 140=V (Value.agg (#[Value.int .i64 0,Value.int .i64 0,Value.int .i64 0,Value.bool mD,Value.slice I 0 0])):=by kernel_rfl
theorem qfr:bv prog 166=V (Value.agg (#[Value.string ⟨#[]⟩,Value.int .i64 0,Value.string ⟨#[]⟩,Value.slice I 0 0,Value.string ⟨#[]⟩,Value.slice I 0 0,Value.int .i64 0])):=by kernel_rfl
theorem Fz:bv prog 201=V (Value.agg (#[Value.int .i64 0,Value.int .i64 0,Value.int .i64 0])):=by kernel_rfl
theorem qfs:bv prog 223=V (Value.agg (#[Value.int .i64 0,Value.slice I 0 0])):=by kernel_rfl
theorem qft:bv prog 233=V (Value.agg (#[Value.int .i64 0,Value.int .i64 0,Value.int .i64 0,Value.int .i64 0,Value.int .i64 0,Value.int .i64 0,Value.slice I 0 0,Value.slice I 0 0,Value.int .i64 0])):=by kernel_rfl
theorem qfu:bv prog 236=V (Value.agg (#[Value.slice I 0 0,Value.int .i64 0,Value.slice I 0 0,Value.int .i64 0])):=by kernel_rfl
theorem Q2:bv prog 313=V (Value.agg (#[Value.int .i64 0,Value.int .i64 0,Value.int .i64 0])):=by kernel_rfl
section
variable {P:Program} {n:Nat} {Q:Exit->En->PH->Prop} {E:En} {F:PH} {ops:Array Oper} {l:List Oper} {d:Tmp} {op:Op} {ty:TypeId} {pos:String} {aft:Array Edge} {gd:Option (Nat×Bool)}
theorem aaR {W:Func} {r N A R:ResultVar} {v O C L:Value} (h:W.results= #[r,N,A,R]) (M:ia P E F r v) (D:ia P E F N O) (g:ia P E F A C) (B:ia P E F R L):oX P W E F (.tuple #[v,O,C,L]):=λe w K st G=>by have k:=dO M st G;have k':=dO D st G;have J:=dO g st G;have k3:=dO B st G;clear G M D g B;rcases k with ⟨t,rfl,X⟩|⟨x,t,a,rfl,X,h2⟩<;>rcases k' with ⟨t',rfl,h3⟩|⟨x',t',a',rfl,h3,h4⟩<;>rcases J with ⟨H,rfl,h5⟩|⟨a0,H,a1,rfl,h5,h6⟩<;>rcases k3 with ⟨t3,rfl,h7⟩|⟨x3,t3,a3,rfl,h7,h8⟩<;>simp [results,asAddr, *]
end
section
variable {P:Program} {F:PH} {E:En} {o:Oper} {x y:Operand} {t t':TypeId}
theorem Tu {c d:ByteArray} (A:o.op=.binOp .add t x y t') (r:ev E x=.string c) (w:ev E y=.string d) (h:c.size+d.size<=9223372036854775807):RD P E F o (.string (c++d)):=by
 have e:IntKind.i64.max=9223372036854775807:=by decide
 have g:¬(((c.size+d.size:Nat):Int)>IntKind.i64.max):=by rw [e];omega
 simp only [RD,execOp,A,r,w,am];refine ⟨.string (c++d),⟨(),bo rfl,?_⟩,rfl⟩;show qX P (Op.stringOp .add c d) F _;unfold Op.stringOp;simp only [Υ g];rfl
theorem Tv {c d:ByteArray} (r:o.op=.binOp .lss t x y t') (g:ev E x=.string c) (h:ev E y=.string d):RD P E F o (.bool (Op.bytesLess c.toList d.toList)):=by simp only [RD,execOp,r,g,h,am];exact ⟨_,⟨(),bo rfl,rfl⟩,rfl⟩
theorem Tw {c d:ByteArray} (r:o.op=.binOp .geq t x y t') (g:ev E x=.string c) (h:ev E y=.string d):RD P E F o (.bool (!Op.bytesLess c.toList d.toList)):=by simp only [RD,execOp,r,g,h,am];exact ⟨_,⟨(),bo rfl,rfl⟩,rfl⟩
theorem LC {e:TypeId} {v:Value} {s:ByteArray} (C:o.op=.convert t t' x) (r:ev E x=v) (g:P.underlying t=V (.slice e)) (w:P.underlying t'=V .string) (B:P.underlying e=V (.int .u8))
  (A:∃b l c,v=.slice b l c) (h:qX P (Conv.bytesToString v) F (.string s)):RD P E F o (.string s):=by
 obtain ⟨b,l,c,rfl⟩:=A;simp only [RD,execOp,C,r,am,convert];refine ⟨_,⟨_,(az g _).2 rfl,_,(az w _).2 rfl,?_⟩,rfl⟩;cases b<;>(simp only [am];exact ⟨_,(az B _).2 rfl,h⟩)
variable {K:En->PH->Prop} {d:Tmp} {ty:TypeId} {pos:String} {aft:Array Edge} {gd:Option (Nat×Bool)}
theorem LD {m:Option Nat} {r:Value} (w:o.op=.call {callee:=.builtin .len,args:= #[x],argTypes:= #[t]}) (g:ev E x=.map m) (h:qX P (Builtin.len_ #[t] o.type #[.map m]) F r):RD P E F o r:=by simp [RD,execOp,w,resolve,invoke,builtin,g];exact h
theorem N8 {v r:Value} (w:o.op=.entry x) (g:ev E x=v) (h:qX P (Instr.entry v) F r):RD P E F o r:=by simp only [RD,execOp,w,g,am];exact ⟨_,h,rfl⟩
end
abbrev VR:=Value->PH->Prop
abbrev pv (F:PH) (a:Addr) (v:Value) (K:PH->Prop):Prop:=
 ∃c e,F a.block=V (Y c e (0,0))/\a.spot=I/\a.off<c.size/\xJ (F.set a.block (Y (c.setIfInBounds a.off v) e)) K
abbrev aA (F:PH) (a:Addr) (n:Nat) (v:Array Value) (K:PH->Prop):Prop:=
 v.size=n/\(∀x∈v.toList,ak x)/\∃c e,F a.block=V (Y c e (0,0))/\a.spot=I/\a.off+n<=c.size/\xJ (F.set a.block (Y (wr c a.off v.toList) e)) K
def xT (u:Value) (b:Bool):Prop:=(u=.nilFunc/\b=nk)\/((∃f x y,u=.func f x y)/\b=mD)
namespace Rx
inductive Kd|int (k:IntKind)|bool|ptr|sl|str|map|agg|any
def Kd.T:Kd->Type
 | .int _=>Int| .bool=>Bool| .ptr=>Option Addr| .sl=>Sl| .str=>ByteArray| .map=>Option Nat| .agg=>Array Value| .any=>Value
def Kd.v:(k:Kd)->k.T->Value
 | .int k,x=> .int k x| .bool,b=> .bool b| .ptr,p=> .pointer p| .sl,s=>Sl.v s| .str,s=> .string s| .map,m=> .map m| .agg,c=> .agg c| .any,v=>v
def XS:TypeDesc->Kd
 | .int k=> .int k| .bool=> .bool| .string=> .str| .pointer _=> .ptr| .slice _=> .sl| .map _ _=> .map| .struct _=> .agg| .array _ _=> .agg|_=> .any
def kd (P:Program) (t:TypeId):Kd:=match P.underlying t with|some d=>XS d|none=> .any
inductive SV|c (v:Value)|any (v:Value)|ad (a:Addr)|lit (b:Bool)|vt (w:Array Value)|und|ref (i:Nat)|unk
inductive SB|bool (b:Bool)|prp (p:Prop) (d:Decidable p)|lit (b:Bool)|ptr (p:Option Addr)|ad (a:Addr)
def SB.v:SB->Value
 | .bool b=> .bool b| .prp p d=> .bool (@decide p d)| .lit b=> .bool b| .ptr p=> .pointer p| .ad a=> .pointer (V a)
inductive VW|c (v:Value)|any (v:Value)|ad (a:Addr)|lit (b:Bool)|vt (w:Array Value)|und|bool (i:Nat) (b:Bool)|prp (i:Nat) (p:Prop) (d:Decidable p)|ptr (i:Nat) (p:Option Addr)|unk
def SB.vw (i:Nat):SB->VW
 | .bool b=> .bool i b| .prp p d=> .prp i p d| .lit b=> .lit b| .ptr p=> .ptr i p| .ad a=> .ad a
def SV.vw (T:Nat->Option SB):SV->VW
 | .c v=> .c v| .any v=> .any v| .ad a=> .ad a| .lit b=> .lit b| .vt w=> .vt w| .und=> .und
 | .ref i=>(match T i with|some s=>s.vw i|none=> .unk)
 | .unk=> .unk
def VW.val:VW->Option Value
 | .c v=>V v| .any v=>V v| .ad a=>V (.pointer (V a))| .lit b=>V (.bool b)| .vt w=>V (.tuple w)| .und=>V undef
 | .bool _ b=>V (.bool b)| .prp _ p d=>V (.bool (@decide p d))| .ptr _ p=>V (.pointer p)| .unk=>I
structure Sy where
 S:Nat->SV
 T:Nat->Option SB
 n:Nat
def up {α:Type} (f:Nat->α) (d:Nat) (x:α):Nat->α:=λt=>bif Nat.beq t d then x else f t
def YP:Value->SV
 | .bool b=> .lit b|v=> .c v
def Sy.cp (σ:Sy):Operand->SV
 | .tmp t=>σ.S t| .const v=>YP v| .global g=> .ad ⟨g,0,I⟩| .func f=> .c (.func (.func f) #[] #[])
def Sy.ov (σ:Sy) (x:Operand):VW:=(σ.cp x).vw σ.T
def Sy.vw (σ:Sy) (t:Nat):VW:=(σ.S t).vw σ.T
inductive NV|sv (s:SV)|nb (b:SB)
def Sy.put (σ:Sy) (d:Nat):NV->Sy
 | .sv s=>⟨up σ.S d s,σ.T,σ.n⟩
 | .nb b=>⟨up σ.S d (.ref σ.n),up σ.T σ.n (V b),σ.n+1⟩
def Sy.putO (σ:Sy):Option Tmp->NV->Sy
 |some d,v=>σ.put d v
 |none,_=>σ
def Sy.rf (σ:Sy) (i:Nat) (b:SB):Sy:=⟨σ.S,up σ.T i (V b),σ.n⟩
def Kd.nv:(k:Kd)->k.T->NV
 | .int k,x=> .sv (.c (.int k x))| .bool,b=> .nb (.bool b)| .ptr,p=> .nb (.ptr p)| .sl,s=> .sv (.c (Sl.v s))| .str,s=> .sv (.c (.string s))| .map,m=> .sv (.c (.map m))| .agg,c=> .sv (.c (.agg c))| .any,v=> .sv (.any v)
def Y8:Kd->Value->NV
 | .any,v=> .sv (.any v)
 | .bool,v=>(match v with| .bool b=> .nb (.bool b)|_=> .sv .unk)
 | .ptr,v=>(match v with| .pointer p=> .nb (.ptr p)|_=> .sv .unk)
 |_,v=> .sv (.c v)
def py:List Nat->Nat->Bool
 |[],_=>mD
 |x::l,t=>bif Nat.beq t x then nk else py l t
def Sy.hav (σ:Sy) (M:List Nat):Sy:=⟨λt=>bif py M t then .unk else σ.S t,σ.T,σ.n⟩
def XO (σ:Sy) (x:Operand) (K:Sy->Addr->Prop):Prop:=
 match σ.ov x with
 | .ad a=>K σ a
 | .ptr i p=>∃a:Addr,p=V a/\K (σ.rf i (.ad a)) a
 | .c (.pointer (V a))=>K σ a
 |_=>False
def xU (σ:Sy):List Operand->(List Value->Prop)->Prop
 |[],K=>K []
 |x::l,K=>match (σ.ov x).val with|some v=>xU σ l (λus=>K (v::us))|none=>False
abbrev RK:=Sy->NV->Option (PH->Prop)->Prop
def za (b:Bool) (K:Prop):Prop:=match b with|true=>K|false=>False
def ZO (op:BinOp) (k:IntKind) (a b:Int) (lit:Bool) (K:NV->Prop):Prop:=
 match op with
 | .add=>K (.sv (.c (.int k (k.wrap (a+b)))))
 | .sub=>K (.sv (.c (.int k (k.wrap (a - b)))))
 | .mul=>K (.sv (.c (.int k (k.wrap (a*b)))))
 | .quo=>(match lit with|true=>(match decide (b≠0) with|true=>K (.sv (.c (.int k (k.wrap (Int.tdiv a b)))))|false=>False)|false=>b≠0/\K (.sv (.c (.int k (k.wrap (Int.tdiv a b))))))
 | .rem=>(match lit with|true=>(match decide (b≠0) with|true=>K (.sv (.c (.int k (Int.tmod a b))))|false=>False)|false=>b≠0/\K (.sv (.c (.int k (Int.tmod a b)))))
 | .and=>K (.sv (.c (.int k (k.wrap ((BitVec.ofInt k.bits a &&& BitVec.ofInt k.bits b).toNat)))))
 | .or=>K (.sv (.c (.int k (k.wrap ((BitVec.ofInt k.bits a ||| BitVec.ofInt k.bits b).toNat)))))
 | .xor=>K (.sv (.c (.int k (k.wrap ((BitVec.ofInt k.bits a ^^^ BitVec.ofInt k.bits b).toNat)))))
 | .andNot=>K (.sv (.c (.int k (k.wrap ((BitVec.ofInt k.bits a &&& ~~~ BitVec.ofInt k.bits b).toNat)))))
 | .lss=>K (.nb (.prp (a<b) inferInstance))
 | .leq=>K (.nb (.prp (a<=b) inferInstance))
 | .gtr=>K (.nb (.prp (b<a) inferInstance))
 | .geq=>K (.nb (.prp (b<=a) inferInstance))
 | .eql=>K (.nb (.prp (a=b) inferInstance))
 | .neq=>K (.nb (.prp (a≠b) inferInstance))
 |_=>False
def ZN (op:BinOp) (k:IntKind) (a b:Int) (lit:Bool) (K:NV->Prop):Prop:=
 match op with
 | .shl=>(match lit with|true=>(match decide (0<=b) with|true=>K (.sv (.c (.int k (k.wrap (a*2 ^ (min b.toNat k.bits))))))|false=>False)|false=>0<=b/\K (.sv (.c (.int k (k.wrap (a*2 ^ (min b.toNat k.bits)))))))
 | .shr=>(match lit with|true=>(match decide (0<=b) with|true=>K (.sv (.c (.int k (a.fdiv (2 ^ (min b.toNat k.bits))))))|false=>False)|false=>0<=b/\K (.sv (.c (.int k (a.fdiv (2 ^ (min b.toNat k.bits)))))))
 |_=>False
def N9:BinOp->Bool
 | .shl=>nk| .shr=>nk|_=>mD
def xV:Operand->Bool
 | .const _=>nk|_=>mD
def VW.tv:VW->Option Bool
 | .lit b=>V b| .bool _ b=>V b| .prp _ p d=>V (@decide p d)|_=>I
def LF (P:Program) (σ:Sy) (op:BinOp) (t:TypeId) (x y:Operand) (K:NV->Prop):Prop:=
 match σ.ov x,σ.ov y with
 | .c (.int k a),.c (.int k' b)=>(match N9 op with|true=>ZN op k a b (xV y) K|false=>(match decide (k=k') with|true=>ZO op k a b (xV y) K|false=>False))
 | .c (.string c),.c (.string d)=>(match op with
  | .add=>c.size+d.size<=9223372036854775807/\K (.sv (.c (.string (c++d))))
  | .lss=>K (.nb (.bool (Op.bytesLess c.toList d.toList)))
  | .geq=>K (.nb (.bool (!Op.bytesLess c.toList d.toList)))
  | .eql=>K (.nb (.bool (c.toList==d.toList)))
  | .neq=>K (.nb (.bool (!(c.toList==d.toList))))
  |_=>False)
 | .ad _,.c (.pointer I)=>(match P.underlying t,op with|some (.pointer _),.eql=>K (.sv (.lit mD))|some (.pointer _),.neq=>K (.sv (.lit nk))|_,_=>False)
 | .ptr _ p,.c (.pointer I)=>(match P.underlying t,op with|some (.pointer _),.eql=>K (.nb (.bool p.isNone))|some (.pointer _),.neq=>K (.nb (.bool (!p.isNone)))|_,_=>False)
 | .c (.slice b _ _),.c (.slice I 0 0)=>(match P.underlying t,op with|some (.slice _),.eql=>K (.nb (.bool b.isNone))|some (.slice _),.neq=>K (.nb (.bool (!b.isNone)))|_,_=>False)
 | .c (.agg c),.c (.agg d)=>(match P.eqGuardType P.depth t,op with
  |false,.eql=>∃v:Bool,(∀F,qX P (Op.equal t (.agg c) (.agg d)) F v)/\K (.nb (.bool v))
  |false,.neq=>∃v:Bool,(∀F,qX P (Op.equal t (.agg c) (.agg d)) F v)/\K (.nb (.bool (!v)))
  |_,_=>False)
 | .any u,.c .nilFunc=>(match P.underlying t,op with
  |some (.func _ _ _),.eql=>∃v:Bool,xT u v/\K (.nb (.bool v))
  |some (.func _ _ _),.neq=>∃v:Bool,xT u v/\K (.nb (.bool (!v)))
  |_,_=>False)
 |u,w=>(match P.underlying t,u.tv,w.tv with
  |some .bool,V a,V b=>(match op with| .eql=>K (.nb (.bool (a==b)))| .neq=>K (.nb (.bool (!(a==b))))|_=>False)
  |_,_,_=>False)
def Tx (P:Program) (t:TypeId) (a:Addr) (F:PH) (K:NV->(PH->Prop)->Prop):Prop:=
 match P.underlying t with
 |none=>False
 |some d=>match XS d with
  | .agg=>(match vy P t with|some (n,_)=>∃v:Array Value,v.size=n/\F.row a v/\K (.sv (.c (.agg v))) (λF=>F.row a v)|none=>False)
  |k=>∃x:k.T,F.cell a=V (k.v x)/\K (k.nv x) (λF=>F.cell a=V (k.v x))
def xW (σ:Sy) (y:Option Operand) (dflt:Nat) (K:Nat->Prop):Prop:=
 match y with
 |none=>K dflt
 |some y=>match σ.ov y with
  | .c (.int _ i)=>(match xV y with|true=>(match decide (0<=i) with|true=>K i.toNat|false=>False)|false=>0<=i/\K i.toNat)
  |_=>False
def XG (σ:Sy) (place:Nat->Option (Nat×Nat)) (n:Nat):List (Nat×Operand)->Array Value->(Array Value->Prop)->Prop
 |[],cs,K=>K cs
 | (i,x)::l,cs,K=>match place i with
  |none=>False
  |some (off,s)=>match σ.ov x with
   | .c (.agg c)=>(match Nat.ble (off+s) n with|true=>c.size=s/\XG σ place n l (wr cs off c.toList) K|false=>False)
   | .c v=>(match Nat.beq s 1,Nat.blt off n with|true,nk=>XG σ place n l (cs.setIfInBounds off v) K|_,_=>False)
   | .any _=>False
   |w=>(match Nat.beq s 1,Nat.blt off n,w.val with|true,nk,V v=>XG σ place n l (cs.setIfInBounds off v) K|_,_,_=>False)
def YQ:Op->Bool
 | .move _| .assign _| .pick _ _ _| .nilCheck _| .extract _ _| .fieldAddr _ _ _| .load _ _| .indexAddr _ _ _| .index _ _ _| .field _ _ _| .binOp _ _ _ _ _| .unOp _ _ _| .convert _ _ _| .slice _ _ _ _ _
 | .build _ _| .lookup _ _ _ _| .makeFunc _ _ _| .entry _=>nk
 | .call ⟨.builtin .len,_,_⟩| .call ⟨.builtin .cap,_,_⟩| .call ⟨.builtin .max,_,_⟩| .call ⟨.builtin .min,_,_⟩=>nk
 |_=>mD
def ZC (P:Program) (σ:Sy) (o:Oper) (F:PH) (K:RK):Prop:=
 match o.op with
 | .move x=>K σ (.sv (σ.cp x)) I
 | .assign x=>K σ (.sv (σ.cp x)) I
 | .pick c a b=>(match σ.ov c with| .lit nk=>K σ (.sv (σ.cp a)) I| .lit mD=>K σ (.sv (σ.cp b)) I|_=>False)
 | .nilCheck x=>(match σ.ov x with
  | .c (.func (.func _) _ _)=>K σ (.sv (σ.cp x)) I
  |_=>XO σ x λσ a=>K σ (.sv (.ad a)) I)
 | .extract x i=>(match σ.ov x with
  | .c (.tuple vs)=>(match vs[i]? with|some v=>K σ (Y8 (kd P o.type) v) I|none=>False)
  | .vt w=>∃v:(kd P o.type).T,w[i]? =V ((kd P o.type).v v)/\K σ ((kd P o.type).nv v) I
  |_=>False)
 | .fieldAddr t x i=>(match P.underlying t with
  |some (.struct fs)=>(match fs[i]? with
   |some f=>(match vy P f.type with|some (_+1,_)=>XO σ x λσ a=>K σ (.sv (.ad (a.add f.offset))) I|_=>False)
   |none=>False)
  |_=>False)
 | .load t x=>XO σ x λσ a=>Tx P t a F λv ck=>K σ v (V ck)
 | .indexAddr t x y=>(match σ.ov y,P.underlying t with
  | .c (.int _ i),V (.slice e)=>(match σ.ov x,vy P e with
   | .c (.slice qa5 len _),V (s,_)=>∃a:Addr,qa5=V a/\0<=i/\i<(len:Int)/\K σ (.sv (.ad (a.add (i.toNat*s)))) I
   |_,_=>False)
  | .c (.int _ i),V (.array n e)=>(match vy P e with
   |some (s,_)=>XO σ x λσ a=>0<=i/\i<(n:Int)/\K σ (.sv (.ad (a.add (i.toNat*s)))) I
   |_=>False)
  |_,_=>False)
 | .index t x y=>(match σ.ov x,σ.ov y,P.underlying t with
  | .c (.string s),.c (.int _ i),V .string=>0<=i/\i<(s.size:Int)/\∃(hx:Int.toNat i<s.size) (v:Int),v=((s[Int.toNat i]'hx).toNat:Int)/\K σ (.sv (.c (.int .u8 v))) I
  | .c (.agg cs),.c (.int _ i),V (.array n e)=>(match P.underlying e,vy P e with
   |some d,V (s,_)=>(match XS d with
    | .agg=>False
    |k=>0<=i/\i<(n:Int)/\∃v:k.T,cs[i.toNat*s]? =V (k.v v)/\K σ (k.nv v) I)
   |_,_=>False)
  |_,_,_=>False)
 | .field t x i=>(match σ.ov x,P.underlying t with
  | .c (.agg cs),V (.struct fs)=>(match fs[i]? with
   |some f=>(match P.underlying f.type,vy P f.type with
    |some d,V (s,_)=>(match XS d with
     | .agg=>K σ (.sv (.c (.agg (cs.extract f.offset (f.offset+s))))) I
     |k=>∃v:k.T,cs[f.offset]? =V (k.v v)/\K σ (k.nv v) I)
    |_,_=>False)
   |none=>False)
  |_,_=>False)
 | .binOp op t x y _=>LF P σ op t x y λv=>K σ v I
 | .unOp op _ x=>(match op,σ.ov x with
  | .not,.lit b=>K σ (.sv (.lit (!b))) I
  | .not,.bool _ b=>K σ (.nb (.bool (!b))) I
  | .not,.prp _ p d=>K σ (.nb (.prp (¬p) (@instDecidableNot p d))) I
  | .neg,.c (.int k a)=>K σ (.sv (.c (.int k (k.wrap (0 - a))))) I
  |_,_=>False)
 | .convert t t' x=>(match σ.ov x,P.underlying t,P.underlying t' with
  | .c (.int _ a),V _,V (.int k')=>K σ (.sv (.c (.int k' (k'.wrap a)))) I
  | .c (.slice b l c),V (.slice e),V .string=>(match P.underlying e with
   |some (.int .u8)=>∃s:ByteArray,qX P (Conv.bytesToString (.slice b l c)) F (.string s)/\K σ (.sv (.c (.string s))) (V λF=>qX P (Conv.bytesToString (.slice b l c)) F (.string s))
   |_=>False)
  |_,_,_=>False)
 | .slice t x lo hi mx=>(match P.underlying t,mx with
  |some (.slice e),I=>(match σ.ov x,vy P e with
   | .c (.slice b len cap),V (sz,_)=>xW σ lo 0 λl=>xW σ hi len λh=>l<=h/\h<=cap/\K σ (.sv (.c (Sl.v (Sl.cut ⟨b,len,cap⟩ sz l h cap)))) I
   |_,_=>False)
  |some .string,I=>(match σ.ov x with
   | .c (.string s)=>xW σ lo 0 λl=>xW σ hi s.size λh=>l<=h/\h<=s.size/\K σ (.sv (.c (.string (s.extract l h)))) I
   |_=>False)
  |some (.array n e),I=>(match vy P e,lo,hi with
   |some (sz,_),I,I=>XO σ x λσ a=>K σ (.sv (.c (Sl.v (Sl.cut ⟨V a,n,n⟩ sz 0 n n)))) I
   |some (sz,_),lo,hi=>XO σ x λσ a=>xW σ lo 0 λl=>xW σ hi n λh=>l<=h/\h<=n/\K σ (.sv (.c (Sl.v (Sl.cut ⟨V a,n,n⟩ sz l h n)))) I
   |_,_,_=>False)
  |some (.slice e),V mx=>(match σ.ov x,vy P e,hi.map σ.ov,σ.ov mx with
   | .c (.slice b len cap),V (sz,_),V (.c (.int _ i)),.c (.int _ m)=>xW σ lo 0 λl=>
    0<=i/\0<=m/\l<=i.toNat/\i<=m/\m<=(cap:Int)/\K σ (.sv (.c (Sl.v (Sl.cut ⟨b,len,cap⟩ sz l i.toNat m.toNat)))) I
   |_,_,_,_=>False)
  |_,_=>False)
 | .build t parts=>(match P.underlying t,bv P t with
  |some (.struct fs),V z=>za (ju P fs) (XG σ (λi=>(nq P fs)[i]?) z.cells.size parts.toList z.cells λcs=>K σ (.sv (.c (.agg cs))) I)
  |some (.array _ e),V z=>(match vy P e with
   |some (s,_)=>XG σ (λi=>V (i*s,s)) z.cells.size parts.toList z.cells λcs=>K σ (.sv (.c (.agg cs))) I
   |none=>False)
  |_,_=>False)
 | .makeFunc (.func f) first cap=>xU σ first.toList λus=>xU σ cap.toList λvs=>K σ (.sv (.c (.func (.func f) us.toArray vs.toArray))) I
 | .lookup t x y ok=>(match (σ.ov x).val,(σ.ov y).val,P.underlying t with
  |some u,V v,V (.map _ e)=>(match ok with
   |true=>∃(r:(kd P e).T) (b:Bool),qX P (Instr.lookup t u v nk) F (.tuple #[(kd P e).v r,.bool b])/\K σ (.sv (.c (.tuple #[(kd P e).v r,.bool b]))) (V λF=>qX P (Instr.lookup t u v nk) F (.tuple #[(kd P e).v r,.bool b]))
   |false=>∃r:(kd P e).T,qX P (Instr.lookup t u v mD) F ((kd P e).v r)/\K σ ((kd P e).nv r) (V λF=>qX P (Instr.lookup t u v mD) F ((kd P e).v r)))
  |_,_,_=>False)
 | .entry x=>(match (σ.ov x).val with
  |some u=>∃w:Array Value,qX P (Instr.entry u) F (.tuple w)/\K σ (.sv (.vt w)) (V λF=>qX P (Instr.entry u) F (.tuple w))
  |none=>False)
 | .call ⟨.builtin b,args,ts⟩=>(match b,args.toList.map σ.ov,ts.toList with
  | .len,[.c (.slice _ l _)],[t]=>(match P.underlying t with|some (.slice _)=>K σ (.sv (.c (.int .i64 (l:Int)))) I|_=>False)
  | .len,[.c (.string s)],[t]=>(match P.underlying t with|some .string=>K σ (.sv (.c (.int .i64 (s.size:Int)))) I|_=>False)
  | .len,[.c (.map m)],[t]=>∃v:Int,qX P (Builtin.len_ #[t] o.type #[.map m]) F (.int .i64 v)/\K σ (.sv (.c (.int .i64 v))) (V λF=>qX P (Builtin.len_ #[t] o.type #[.map m]) F (.int .i64 v))
  | .cap,[.c (.slice _ _ c)],[t]=>(match P.underlying t with|some (.slice _)=>K σ (.sv (.c (.int .i64 (c:Int)))) I|_=>False)
  | .max,[.c (.int k a),.c (.int k' b)],_=>za (decide (k=k')) (K σ (.sv (.c (.int k (max a b)))) I)
  | .min,[.c (.int k a),.c (.int k' b)],_=>za (decide (k=k')) (K σ (.sv (.c (.int k (min a b)))) I)
  | .max,[.c (.int k a),.c (.int k' b),.c (.int k'' c)],_=>za (decide (k=k'/\k=k'')) (K σ (.sv (.c (.int k (max (max a b) c)))) I)
  | .min,[.c (.int k a),.c (.int k' b),.c (.int k'' c)],_=>za (decide (k=k'/\k=k'')) (K σ (.sv (.c (.int k (min (min a b) c)))) I)
  |_,_,_=>False)
 |_=>False
def Ae (P:Program) (σ:Sy) (d:Option Tmp) (t:TypeId) (v:Value) (K:Sy->Prop):Prop:=
 match d with
 |none=>K σ
 |some d=>match P.underlying t with
  |some (.tuple ts)=>(match ts.toList with
   |[]=>v=.tuple #[]/\K (σ.put d (.sv (.c (.tuple #[]))))
   |[a]=>∃x:(kd P a).T,v=.tuple #[(kd P a).v x]/\K (σ.put d (.sv (.c (.tuple #[(kd P a).v x]))))
   |[a,b]=>∃x:(kd P a).T,∃y:(kd P b).T,v=.tuple #[(kd P a).v x,(kd P b).v y]/\K (σ.put d (.sv (.c (.tuple #[(kd P a).v x,(kd P b).v y]))))
   |[a,b,c]=>∃x:(kd P a).T,∃y:(kd P b).T,∃z:(kd P c).T,v=.tuple #[(kd P a).v x,(kd P b).v y,(kd P c).v z]/\K (σ.put d (.sv (.c (.tuple #[(kd P a).v x,(kd P b).v y,(kd P c).v z]))))
   |[a,b,c,e]=>∃x:(kd P a).T,∃y:(kd P b).T,∃z:(kd P c).T,∃u:(kd P e).T,v=.tuple #[(kd P a).v x,(kd P b).v y,(kd P c).v z,(kd P e).v u]/\K (σ.put d (.sv (.c (.tuple #[(kd P a).v x,(kd P b).v y,(kd P c).v z,(kd P e).v u]))))
   |[a,b,c,e,f]=>∃x:(kd P a).T,∃y:(kd P b).T,∃z:(kd P c).T,∃u:(kd P e).T,∃w:(kd P f).T,v=.tuple #[(kd P a).v x,(kd P b).v y,(kd P c).v z,(kd P e).v u,(kd P f).v w]/\K (σ.put d (.sv (.c (.tuple #[(kd P a).v x,(kd P b).v y,(kd P c).v z,(kd P e).v u,(kd P f).v w]))))
   |_=>False)
  |_=>∃x:(kd P t).T,v=(kd P t).v x/\K (σ.put d ((kd P t).nv x))
abbrev EK:=Bool->Sy->PH->Prop
def XC (σ:Sy) (d:Option Tmp) (o:Obj) (s:Nat->SV) (F:PH) (K:EK):Prop:=
 ∀b,F b=I->xJ (F.set b o) λF=>K nk (σ.putO d (.sv (s b))) F
def Oa (σ:Sy):Nat->List (Nat×Operand)->Option (List Value)
 |_,[]=>V []
 |k,(i,x)::l=>match Nat.beq i k,σ.ov x with
  |true,.c (.agg _)=>I
  |true,.any _=>I
  |true,w=>(match w.val,Oa σ (k+1) l with|some v,V vs=>V (v::vs)|_,_=>I)
  |false,_=>I
def ZA (P:Program) (σ:Sy) (o:Oper) (F:PH) (K:EK):Prop:=
 match o.op with
 | .alloc t=>(match bv P t with|some z=>XC σ o.dst (Y z.cells t) (λb=> .ad ⟨b,0,I⟩) F K|none=>False)
 | .box t x=>(match σ.ov x with
  | .c (.agg c)=>XC σ o.dst (Y c t) (λb=> .ad ⟨b,0,I⟩) F K
  | .any v=>v.cells= #[v]/\XC σ o.dst (Y #[v] t) (λb=> .ad ⟨b,0,I⟩) F K
  |w=>(match w.val with|some v=>XC σ o.dst (Y #[v] t) (λb=> .ad ⟨b,0,I⟩) F K|none=>False))
 | .buildSlice t m parts=>(match P.underlying t with
  |some (.slice e)=>(match vy P e,bv P e with
   |some (s,_),V z=>(match Nat.ble (m*s) 16777216,Nat.beq z.cells.size s,Nat.blt 0 s with
    |true,nk,nk=>(match Nat.beq s 1,Nat.beq parts.toList.length m,Oa σ 0 parts.toList with
     |true,nk,V l=>XC σ o.dst (Y l.toArray e) (λb=> .c (Sl.v ⟨V ⟨b,0,I⟩,m,m⟩)) F K
     |_,_,_=>(match m,parts.toList.map (λp=>(p.1,σ.ov p.2)) with
      |1,[(0,.c (.agg c))]=>c.size=s/\XC σ o.dst (Y c e) (λb=> .c (Sl.v ⟨V ⟨b,0,I⟩,1,1⟩)) F K
      |m,_=>XG σ (λi=>V (i*s,s)) (m*s) parts.toList ((List.replicate m z.cells.toList).flatten).toArray λcs=>XC σ o.dst (Y cs e) (λb=> .c (Sl.v ⟨V ⟨b,0,I⟩,m,m⟩)) F K))
    |_,_,_=>False)
   |_,_=>False)
  |_=>False)
 | .store t x y=>XO σ x λσ a=>(match σ.ov y,vy P t with
  | .c (.agg v),V (n+1,_)=>aA F a (n+1) v λF=>K mD (σ.putO o.dst (.sv .und)) F
  | .c (.tuple _),_=>False
  | .c v,V (1,_)=>pv F a v λF=>K mD (σ.putO o.dst (.sv .und)) F
  | .any v,V (1,_)=>ak v/\v.cells= #[v]/\pv F a v λF=>K mD (σ.putO o.dst (.sv .und)) F
  | .vt _,_=>False
  | .und,_=>False
  |w,V (1,_)=>(match w.val with|some v=>pv F a v λF=>K mD (σ.putO o.dst (.sv .und)) F|none=>False)
  |_,_=>False)
 | .range t x=>(match P.underlying t,σ.ov x with
  |some .string,.c (.string s)=>XC σ o.dst (.stringIter s 0) (λb=> .ad ⟨b,0,I⟩) F K
  |some (.map _ _),w=>(match w.val with
   |some v=>aG P (Instr.range t v) F λv F=>∃b:Nat,v=.pointer (V ⟨b,0,I⟩)/\K mD (σ.putO o.dst (.sv (.ad ⟨b,0,I⟩))) F
   |none=>False)
  |_,_=>False)
 | .next x is=>(match (σ.ov x).val with
  |some v=>aG P (Instr.next v is o.type) F λv F=>∃w:Array Value,v=.tuple w/\K mD (σ.putO o.dst (.sv (.vt w))) F
  |none=>False)
 | .makeSlice t x y=>(match (σ.ov x).val,(σ.ov y).val with
  |some u,V v=>aG P (Instr.makeSlice t u v) F λv F=>∃s:Sl,v=Sl.v s/\K mD (σ.putO o.dst (.sv (.c (Sl.v s)))) F
  |_,_=>False)
 | .makeMap _ I=>XC σ o.dst (.map #[] 0) (λb=> .c (.map (V b))) F K
 | .mapUpdate t x y z=>(match (σ.ov x).val,(σ.ov y).val,(σ.ov z).val with
  |some u,V v,V w=>aG P (Instr.mapUpdate t u v w) F λ_ F=>K mD (σ.putO o.dst (.sv .und)) F
  |_,_,_=>False)
 | .insert t x y z=>(match (σ.ov x).val,(σ.ov y).val,(σ.ov z).val with
  |some u,V v,V w=>aG P (Instr.mapUpdate t u v w) F λ_ F=>K mD (σ.putO o.dst (.sv .und)) F
  |_,_,_=>False)
 | .call ⟨.builtin b,args,ts⟩=>(match b,args.toList with
  | .append,[x,y]=>(match (σ.ov x).val,(σ.ov y).val with
   |some u,V v=>aG P (Builtin.append_ ts o.type #[u,v]) F λv F=>∃s:Sl,v=Sl.v s/\K mD (σ.putO o.dst (.sv (.c (Sl.v s)))) F
   |_,_=>False)
  | .copy,[x,y]=>(match (σ.ov x).val,(σ.ov y).val with
   |some u,V v=>aG P (Builtin.copy_ ts o.type #[u,v]) F λv F=>∃n:Int,v=.int .i64 n/\K mD (σ.putO o.dst (.sv (.c (.int .i64 n)))) F
   |_,_=>False)
  | .delete,[x,y]=>(match (σ.ov x).val,(σ.ov y).val with
   |some u,V v=>aG P (Builtin.delete_ ts o.type #[u,v]) F λ_ F=>K mD (σ.putO o.dst (.sv .unk)) F
   |_,_=>False)
  |_,_=>False)
 | .call ⟨.value (.func f),args,_⟩=>xU σ args.toList λvs=>za (aF P f) (aj P f vs.toArray F λv F=>Ae P σ o.dst o.type v λσ=>K mD σ F)
 | .call ⟨.value g,args,_⟩=>xU σ args.toList λvs=>(match σ.ov g with
  | .c (.func (.func f) a b)=>za (aF P f) (aj P f (a++vs.toArray++b) F λv F=>Ae P σ o.dst o.type v λσ=>K mD σ F)
  | .any u=>∃(k:Nat) (a b:Array Value),u=.func (.func k) a b/\aF P k=nk/\aj P k (a++vs.toArray++b) F λv F=>Ae P σ o.dst o.type v λσ=>K mD σ F
  |_=>False)
 | .defer ⟨.value g,args,_⟩=>xU σ args.toList λvs=>(match σ.ov g with
  | .c (.func (.func f) a b)=>Ct P ⟨.fn (.func f) b,a++vs.toArray⟩/\K mD (σ.putO o.dst (.sv .und)) F
  |_=>False)
 |_=>False
inductive G|go|no|split (i:Nat) (b:SB) (want:Bool)|bad
def Yc (ops:Array Oper) (σ:Sy) (o:Oper):G:=
 match o.guard with
 |none=> .go
 |some (j,want)=>match (ops[j]?).bind (·.dst) with
  |none=> .no
  |some t=>match σ.vw t with
   | .lit b=>(match b==want with|true=> .go|false=> .no)
   | .und=> .no
   | .bool i b=> .split i (.bool b) want
   | .prp i p d=> .split i (.prp p d) want
   |_=> .bad
def Zz (b:SB) (f:Bool->Prop):Prop:=
 match b with
 | .bool b=>(b=nk->f nk)/\(b=mD->f mD)
 | .prp p _=>(p->f nk)/\(¬p->f mD)
 |_=>False
def Zm (P:Program) (o:Oper) (K:Sy->PH->Prop) (σ:Sy) (F:PH):Prop:=
 match YQ o.op with
 |true=>ZC P σ o F λσ v _=>K (σ.putO o.dst v) F
 |false=>ZA P σ o F λ_ σ F=>K σ F
def XQ (P:Program) (n:Nat) (ops:Array Oper) (K:Sy->PH->Prop):List Oper->Sy->PH->Prop
 |[],σ,F=>K σ F
 |o::l,σ,F=>za (fC n o.dst) (match Yc ops σ o with
  | .go=>Zm P o (XQ P n ops K l) σ F
  | .no=>XQ P n ops K l (σ.putO o.dst (.sv .und)) F
  | .split i b want=>Zz b λv=>match v==want with
   |true=>Zm P o (XQ P n ops K l) (σ.rf i (.lit v)) F
   |false=>XQ P n ops K l ((σ.rf i (.lit v)).putO o.dst (.sv .und)) F
  | .bad=>False)
abbrev Pn:=List (Nat×(PH->Prop))
def Ty (F:PH):Pn->Prop->Prop
 |[],K=>K
 | (_,c)::l,K=>c F/\Ty F l K
def u0 (ops:Array Oper) (σ:Sy):List Nat->Option (Nat×Oper×G)
 |[]=>I
 |i::l=>match ops[i]? with
  |none=>I
  |some o=>match Yc ops σ o with
   | .go=>(match YQ o.op with|true=>V (i,o,.go)|false=>u0 ops σ l)
   |g=>V (i,o,g)
def Tz:List Prop->Prop
 |[]=>False
 |[p]=>p
 |p::l=>p/\Tz l
def XP (P:Program) (n:Nat) (ops:Array Oper) (K:Sy->PH->Prop):Nat->Nat->Array Bool->Pn->Sy->PH->Prop
 |0,_,_,_,_,_=>False
 |k+1,fuel,listed,pend,σ,F=>match Region.ready .any ops listed with
  |[]=>K σ F
  |rs=>match fuel with
   |0=>False
   |fuel+1=>match u0 ops σ rs with
    |some (i,o,g)=>za (Region.noSelect ops && Region.free .any ops listed i && (Region.ready .any ops listed).contains i && fC n o.dst) (match g with
     | .no=>XP P n ops K k fuel (listed.setIfInBounds i nk) pend (σ.putO o.dst (.sv .und)) F
     | .split j b _=>Zz b λv=>XP P n ops K k (fuel+1) listed pend (σ.rf j (.lit v)) F
     | .go=>ZC P σ o F λσ v ck=>XP P n ops K k fuel (listed.setIfInBounds i nk) (match ck with|none=>pend|some c=>(i,c)::pend) (σ.putO o.dst v) F
     | .bad=>False)
    |none=>Tz (rs.map λi=>match ops[i]? with
     |none=>False
     |some o=>za (fC n o.dst) (ZA P σ o F λfl σ F=>
      match fl with
      |true=>XP P n ops K k fuel (listed.setIfInBounds i nk) (pend.filter λp=> !Oper.waits .any o p.1) σ F
      |false=>Ty F (pend.filter λp=> !Oper.waits .any o p.1) (XP P n ops K k fuel (listed.setIfInBounds i nk) (pend.filter λp=> !Oper.waits .any o p.1) σ F)))
def Tl:List (Nat×Kd)->Type
 |[]=>PH->Prop
 | (_,k)::l=>k.T->Tl l
def Zy (w:VW):(k:Kd)->(k.T->Prop)->Prop
 | .int k,K=>(match w with| .c (.int k' x)=>(match decide (k=k') with|true=>K x|false=>False)|_=>False)
 | .bool,K=>(match w with| .lit b=>K b| .bool _ b=>K b| .prp _ p d=>K (@decide p d)|_=>False)
 | .ptr,K=>(match w with| .ad a=>K (V a)| .ptr _ p=>K p| .c (.pointer p)=>K p|_=>False)
 | .sl,K=>(match w with| .c (.slice b l c)=>K ⟨b,l,c⟩|_=>False)
 | .str,K=>(match w with| .c (.string s)=>K s|_=>False)
 | .map,K=>(match w with| .c (.map m)=>K m|_=>False)
 | .agg,K=>(match w with| .c (.agg c)=>K c|_=>False)
 | .any,K=>(match w.val with|some v=>K v|none=>False)
def W1 (σ:Sy):(l:List (Nat×Kd))->Tl l->PH->Prop
 |[],z0,F=>z0 F
 | (t,k)::l,z0,F=>Zy (σ.vw t) k λx=>W1 σ l (z0 x) F
def Zv (f:Sy->PH->Prop):(l:List (Nat×Kd))->Sy->Tl l
 |[],σ=>f σ
 |(t,k)::l,σ=>λx=>Zv f l (σ.put t (k.nv x))
def TA (f:Sy->PH->Prop):(l:List (Nat×Kd))->Tl l->Sy->Prop
 |[],z0,σ=>∀F,z0 F->f σ F
 |(t,k)::l,z0,σ=>∀x:k.T,TA f l (z0 x) (σ.put t (k.nv x))
def TB:(l:List (Nat×Kd))->Tl l->Tl l->Prop
 |[],z1,z0=>∀F,z1 F->z0 F
 |(_,k)::l,z1,z0=>∀x:k.T,TB l (z1 x) (z0 x)
def ZL:(l:List (Nat×Kd))->(Nat->Tl l)->Nat->Tl l
 |[],z0,m=>λF=>∃m',m'<m/\z0 m' F
 | (_,_)::l,z0,m=>λx=>ZL l (λm'=>z0 m' x) m
inductive iZ|N|T (a b:iZ)|J (cut:Bool) (l:List (Nat×Kd)) (a b:iZ)|L (l:List (Nat×Kd)) (a:iZ)
abbrev iZ.qa8 (h:iZ):iZ:=.T .N h
def iZ.fst:iZ->iZ
 | .T a _=>a| .J _ _ a _=>a| .L _ a=>a| .N=> .N
def iZ.snd:iZ->iZ
 | .T _ b=>b| .J _ _ _ b=>b|_=> .N
def iZ.jn:iZ->Option (Bool×List (Nat×Kd))
 | .J c l _ _=>V (c,l)|_=>I
def iZ.lv:iZ->List (Nat×Kd)
 | .L l _=>l|_=>[]
def LG:List Oper->List Nat
 |[]=>[]
 |o::l=>match o.dst with|some d=>d::LG l|none=>LG l
def i6:Code->List Nat
 | .region _ ops _=>LG ops.toList
 | .seq a b=>i6 a++i6 b
 | .cond _ a b=>i6 a++i6 b
 | .block _ c=>i6 c
 | .loop c=>i6 c
 | .scope c=>i6 c
 |_=>[]
abbrev CK:=Exit->Sy->PH->Prop
def YE (f:Sy->PH->Prop) (K:CK):CK
 | .normal,σ,F=>f σ F
 |x,σ,F=>K x σ F
def Z6 (id:Nat) (K:CK):CK
 | .exit i,σ,F=>bif Nat.beq i id then K .normal σ F else K (.exit i) σ F
 |x,σ,F=>K x σ F
def Z5 (K:CK):CK
 | .goto _,_,_=>False
 |x,σ,F=>K x σ F
def sx (P:Program) (n:Nat):Code->iZ->CK->Sy->PH->Prop
 | .skip,_,K,σ,F=>K .normal σ F
 | .label _,_,K,σ,F=>K .normal σ F
 | .scope c,h,K,σ,F=>sx P n c h (Z5 K) σ F
 | .ret,_,K,σ,F=>K .ret σ F
 | .exit i,_,K,σ,F=>K (.exit i) σ F
 | .region _ ops mD,_,K,σ,F=>XQ P n ops (K .normal) ops.toList σ F
 | .region _ ops nk,_,K,σ,F=>za (P.follows .mixedOrders) (XP P n ops (K .normal) (3*ops.size+1) ops.size (Array.replicate ops.size mD) [] σ F)
 | .seq a b,h,K,σ,F=>(match h.jn with
  |none=>sx P n a h.fst (YE (sx P n b h.snd K) K) σ F
  |some (mD,l)=>sx P n a h.fst (YE (λσ' F=>W1 σ' l (Zv (sx P n b h.snd K) l (σ.hav (i6 a))) F) K) σ F
  |some (nk,l)=>∃z1:Tl l,TB l z1 (Zv (sx P n b h.snd K) l (σ.hav (i6 a)))/\sx P n a h.fst (YE (λσ' F=>W1 σ' l z1 F) K) σ F)
 | .cond c a b,h,K,σ,F=>(match σ.ov c with
  | .lit nk=>sx P n a h.fst K σ F
  | .lit mD=>sx P n b h.snd K σ F
  | .bool _ t=>(t=nk->sx P n a h.fst K σ F)/\(t=mD->sx P n b h.snd K σ F)
  | .prp _ p _=>(p->sx P n a h.fst K σ F)/\(¬p->sx P n b h.snd K σ F)
  |_=>False)
 | .block id c,h,K,σ,F=>sx P n c h (Z6 id K) σ F
 | .loop c,h,K,σ,F=>∃(z0:Nat->Tl h.lv) (m:Nat),W1 σ h.lv (z0 m) F/\∀m,TA (sx P n c h.fst (YE (λσ' F=>W1 σ' h.lv (ZL h.lv z0 m) F) K)) h.lv (z0 m) (σ.hav (i6 c))
 |_,_,_,_,_=>False
def tK (P:Program) (σ:Sy):List ResultVar->PH->(List Value->Prop)->Prop
 |[],_,K=>K []
 | .tmp t::l,F,K=>match (σ.vw t).val with|some v=>tK P σ l F (λvs=>K (v::vs))|none=>False
 | .cell x t::l,F,K=>match σ.vw x with
  | .ad a=>(match P.underlying t with
   |none=>False
   |some d=>match XS d with
    | .agg=>(match vy P t with|some (n,_)=>∃v:Array Value,v.size=n/\F.row a v/\tK P σ l F (λvs=>K (.agg v::vs))|none=>False)
    |k=>∃x:k.T,F.cell a=V (k.v x)/\tK P σ l F (λvs=>K (k.v x::vs)))
  |_=>False
def YR:List Value->Value
 |[v]=>v
 |vs=> .tuple vs.toArray
def YS (P:Program) (fn:Func) (R:Value->PH->Prop):CK
 | .normal,σ,F| .ret,σ,F=>za (Nat.ble fn.results.size 5) (tK P σ fn.results.toList F λvs=>R (YR vs) F)
 |_,_,_=>False
def FA (P:Program):Nat->List TypeId->List Value->Sy->Sy
 |_,_,[],σ=>σ
 |i,[],v::vs,σ=>FA P (i+1) [] vs (σ.put i (Y8 .ptr v))
 |i,t::ts,v::vs,σ=>FA P (i+1) ts vs (σ.put i (Y8 (kd P t) v))
def ZB (P:Program) (k:Nat) (h:iZ) (args:List Value) (R:Value->PH->Prop) (F:PH):Prop:=
 match P.funcs[k]? with
 |none=>False
 |some fn=>match fn.body with
  |none=>False
  |some c=>za (Nat.ble args.length fn.ntmps) (sx P fn.ntmps c h (YS P fn R) (FA P 0 fn.params.toList args ⟨λ_=> .unk,λ_=>I,0⟩) F)
end Rx
abbrev Γ:=Array Value
abbrev Δ:=List Nat
abbrev Θ:=Option Addr
abbrev Ξ:=List Value
abbrev Φ:=List Int
abbrev Ψ:=PH->Prop
abbrev Ω:=Int->PH->Prop
abbrev ξ:=Value
abbrev ο:=ByteArray
end Go.Proofs.YteilolbbgieadaaGreatDoor
namespace Go.Proofs.YteilolbbgieadaaGreatDoor.Rx
open Go
def Wl (T:Nat->Option SB):SV->Value->Prop
 | .c v,x=>x=v| .any v,x=>x=v| .ad a,x=>x=.pointer (V a)| .lit b,x=>x=.bool b| .vt w,x=>x=.tuple w| .und,x=>x=undef
 | .ref i,x=>∃b,T i=V b/\x=b.v
 | .unk,_=>True
structure Rel (σ:Sy) (E:En):Prop where
 val:∀t,Wl σ.T (σ.S t) (E t)
 top:∀j,σ.n<=j->σ.T j=I
def i7 (T:Nat->Option SB):NV->Value->Prop
 | .sv s,v=>Wl T s v
 | .nb b,v=>v=b.v
theorem Q3 {T:Nat->Option SB} {s:SV} {x v:Value} (h:Wl T s x) (g:(s.vw T).val=V v):x=v:=by
 cases s with
 |ref i=>obtain ⟨b,r,rfl⟩:=h;simp only [SV.vw,r] at g;cases b<;>simp_all [SB.vw,VW.val,SB.v]
 |unk=>simp [SV.vw,VW.val] at g
 |_=>simp_all [SV.vw,VW.val,Wl]
section
variable {P:Program} {σ:Sy} {E:En} {F:PH} {x y:Operand} {o:Oper}
theorem TC {T:Nat->Option SB} (v:Value):Wl T (YP v) v:=by cases v<;>rfl
theorem u6 (h:Rel σ E) (x:Operand):Wl σ.T (σ.cp x) (ev E x):=by
 cases x with
 |tmp t=>exact h.val t
 |const v=>exact TC v
 |global g=>rfl
 |func f=>rfl
theorem aZ (h:Rel σ E) {w:VW} {v:Value} (r:σ.ov x=w) (g:w.val=V v):ev E x=v:=Q3 (u6 h x) (by rw [<- r] at g;exact g)
theorem vk (h:Rel σ E) {v:Value} (g:σ.ov x=.c v):ev E x=v:=aZ h g rfl
theorem Ob {i:Nat} {p:Option Addr} (g:σ.ov x=.ptr i p):σ.T i=V (.ptr p):=by
 unfold Sy.ov at g;cases hs:σ.cp x<;>simp only [hs,SV.vw] at g<;>try cases g
 rename_i j;cases hb:σ.T j with
 |none=>simp [hb] at g
 |some b=>cases b<;>simp only [hb,SB.vw] at g<;>cases g;exact hb
theorem LH {i t:Nat} {b:Bool} (g:σ.vw t=.bool i b):σ.T i=V (.bool b):=by
 unfold Sy.vw at g;cases hs:σ.S t<;>simp only [hs,SV.vw] at g<;>try cases g
 rename_i j;cases hb:σ.T j with
 |none=>simp [hb] at g
 |some b=>cases b<;>simp only [hb,SB.vw] at g<;>cases g;exact hb
theorem Oc {i t:Nat} {p:Prop} {d:Decidable p} (g:σ.vw t=.prp i p d):σ.T i=V (.prp p d):=by
 unfold Sy.vw at g;cases hs:σ.S t<;>simp only [hs,SV.vw] at g<;>try cases g
 rename_i j;cases hb:σ.T j with
 |none=>simp [hb] at g
 |some b=>cases b<;>simp only [hb,SB.vw] at g<;>cases g;exact hb
theorem qO {α:Type} (f:Nat->α) (d:Nat) (v:α):up f d v d=v:=by simp [up]
theorem u7 {α:Type} (f:Nat->α) {d t:Nat} (v:α) (h:¬t=d):up f d v t=f t:=by simp only [up,lz h];rfl
theorem Rel.put (h:Rel σ E) {d:Nat} {nv:NV} {v:Value} (w:i7 σ.T nv v):Rel (σ.put d nv) (upd E d v):=by
 cases nv with
 |sv s=>
  refine ⟨λt=> ?_,h.top⟩;by_cases g:t=d
  ·subst g;show Wl _ (up _ _ _ t) (upd E t v t);rw [qO,show upd E t v t=v by simp [upd]];exact w
  ·show Wl _ (up _ _ _ t) (upd E d v t);rw [u7 _ _ g];simp only [upd,lz g];exact h.val t
 |nb b=>
  have key:∀s x,Wl σ.T s x->Wl (up σ.T σ.n (V b)) s x:=by
   intro s x A;cases s with
   |ref i=>obtain ⟨D,r,B⟩:=A;refine ⟨D,?_,B⟩;rw [u7 _ _ (λe=> ?_)];exact r;rw [e,h.top _ (ru _)] at r;cases r
   |_=>exact A
  refine ⟨λt=> ?_,λj G=> ?_⟩
  ·by_cases g:t=d
   ·subst g;show Wl _ (up _ _ _ t) (upd E t v t);rw [qO];exact ⟨b,qO ..,(show upd E t v t=v by simp [upd]).trans w⟩
   ·show Wl _ (up _ _ _ t) (upd E d v t);rw [u7 _ _ g];simp only [upd,lz g];exact key _ _ (h.val t)
  ·have C:σ.n+1<=j:=G;show up σ.T σ.n (V b) j=I;rw [u7 _ _ (by omega)];exact h.top _ (by omega)
theorem Rel.putO (h:Rel σ E) {d:Option Tmp} {nv:NV} {v:Value} (g:i7 σ.T nv v):Rel (σ.putO d nv) (cQ E d v):=by
 cases d with
 |none=>exact h
 |some d=>exact h.put g
theorem Rel.rf (h:Rel σ E) {i:Nat} {A b:SB} (hi:σ.T i=V A) (C:A.v=b.v):Rel (σ.rf i b) E:=by
 refine ⟨λt=> ?_,λj B=> ?_⟩
 ·have:=h.val t;show Wl (up σ.T i (V b)) (σ.S t) (E t);cases hs:σ.S t with
  |ref j=>
   rw [hs] at this;obtain ⟨D,r,w⟩:=this;by_cases g:j=i
   ·subst g;rw [hi] at r;cases r;exact ⟨b,qO ..,w.trans C⟩
   ·exact ⟨D,by rw [u7 _ _ g];exact r,w⟩
  |_=>rw [hs] at this;exact this
 ·show up σ.T i (V b) j=I;have:¬j=i:=λe=>by subst e;rw [h.top _ B] at hi;cases hi
  rw [u7 _ _ this];exact h.top _ B
theorem tL {T:Nat->Option SB} (k:Kd) (x:k.T):i7 T (k.nv x) (k.v x):=by cases k<;>rfl
theorem LI {T:Nat->Option SB} (k:Kd) (v:Value):i7 T (Y8 k v) v:=by cases k<;>first|rfl|(cases v<;>first|rfl|exact True.intro)
theorem lI {K:Sy->Addr->Prop} (h:XO σ x K) (r:Rel σ E):∃w a,Rel w E/\ev E x=.pointer (V a)/\K w a:=by
 unfold XO at h;split at h
 ·rename_i a g;exact ⟨σ,a,r,aZ r g rfl,h⟩
 ·rename_i i p g;obtain ⟨a,rfl,h⟩:=h;exact ⟨σ.rf i (.ad a),a,r.rf (Ob g) rfl,aZ r g rfl,h⟩
 ·rename_i a g;exact ⟨σ,a,r,aZ r g rfl,h⟩
 ·exact h.elim
theorem jY (r:Rel σ E):∀(l:List Operand) {K:List Value->Prop},xU σ l K->∃us,l.map (ev E)=us/\K us
 |[],_,h=>⟨[],rfl,h⟩
 |x::l,K,h=>by
  unfold xU at h;split at h
  ·rename_i v w;obtain ⟨us,g,A⟩:=jY r l h;exact ⟨v::us,by rw [xA,g,aZ r rfl w],A⟩
  ·exact h.elim
def CL (P:Program) (E:En) (F:PH) (o:Oper) (K:RK):Prop:=
 ∃σ nv ck v,RD P E F o v/\Rel σ E/\i7 σ.T nv v/\(match ck with|none=>∀F,RD P E F o v|some c=>c F/\∀F':PH,c F'->RD P E F' o v)/\K σ nv ck
theorem CL.pure {K:RK} {nv:NV} {v:Value} (g:∀F,RD P E F o v) (r:Rel σ E) (h:K σ nv I) (w:i7 σ.T nv v):CL P E F o K:=⟨σ,nv,I,v,g F,r,w,g,h⟩
theorem CL.chk {K:RK} {nv:NV} {v:Value} {c:PH->Prop} (g:c F) (w:∀A,c A->RD P E A o v) (r:Rel σ E) (h:K σ nv (V c)) (B:i7 σ.T nv v):CL P E F o K:=⟨σ,nv,V c,v,w F g,r,B,⟨g,w⟩,h⟩
def GP (P:Program) (E:En) (o:Oper) (K:NV->Prop):Prop:=∃nv v,(∀F,RD P E F o v)/\(∀T,i7 T nv v)/\K nv
theorem GP.mk {K:NV->Prop} {nv:NV} {v:Value} (g:∀F,RD P E F o v) (h:K nv) (r:∀T,i7 T nv v:=by exact λ_=>rfl):GP P E o K:=⟨nv,v,g,r,h⟩
theorem TD {op:BinOp} {k:IntKind} {a b:Int} {t C:TypeId} {A:Bool} {K:NV->Prop} (h:ZO op k a b A K) (w:o.op=.binOp op t x y C) (g:ev E x=.int k a) (r:ev E y=.int k b):GP P E o K:=by
 cases op<;>simp only [ZO] at h
 case add=>exact .mk (λF=>qfI w g r) h
 case sub=>exact .mk (λF=>qfJ w g r) h
 case mul=>exact .mk (λF=>qfK w g r) h
 case quo=>
  cases A
  ·exact .mk (λF=>QN w g r h.1) h.2
  ·simp only at h;split at h
   ·rename_i B;exact .mk (λF=>QN w g r (ζ B)) h
   ·exact h.elim
 case rem=>
  cases A
  ·exact .mk (λF=>QO w g r h.1) h.2
  ·simp only at h;split at h
   ·rename_i B;exact .mk (λF=>QO w g r (ζ B)) h
   ·exact h.elim
 case and=>exact .mk (λF=>qfL w g r) h
 case or=>exact .mk (λF=>aaB w g r) h
 case xor=>exact .mk (λF=>qfM w g r) h
 case andNot=>exact .mk (λF=>KU w g r) h
 case lss=>exact .mk (λF=>qfN w g r) h
 case leq=>exact .mk (λF=>qfO w g r) h
 case gtr=>exact .mk (λF=>qfP w g r) h
 case geq=>exact .mk (λF=>qfQ w g r) h
 case eql=>exact .mk (λF=>qfR w g r) h
 case neq=>exact .mk (v:=.bool (decide (a≠b))) (λF=>by
  have:=qfS (P:=P) (F:=F) w g r;rw [show (a !=b)=decide (a≠b) by rw [wm];simp] at this
  exact this) h
theorem TE {op:BinOp} {k k':IntKind} {a b:Int} {t C:TypeId} {g:Bool} {K:NV->Prop} (h:ZN op k a b g K) (A:o.op=.binOp op t x y C) (r:ev E x=.int k a) (w:ev E y=.int k' b):GP P E o K:=by
 cases op<;>simp only [ZN] at h
 case shl=>
  cases g
  ·exact .mk (λF=>QP A r w h.1) h.2
  ·simp only at h;split at h
   ·rename_i B;exact .mk (λF=>QP A r w (ζ B)) h
   ·exact h.elim
 case shr=>
  cases g
  ·exact .mk (λF=>QQ A r w h.1) h.2
  ·simp only at h;split at h
   ·rename_i B;exact .mk (λF=>QQ A r w (ζ B)) h
   ·exact h.elim
theorem xX {w:VW} {b:Bool} (h:w.tv=V b):w.val=V (.bool b):=by cases w<;>simp [VW.tv] at h<;>subst h<;>rfl
theorem jZ {m:Nat} {t:TypeId} {u:Value} {b:Bool} {F:PH} {r w:Array TypeId} {v:Bool} (g:P.underlying t=V (.func r w v)) (h:xT u b):qX P (Op.equalIn (m+1) t u .nilFunc) F b:=by simp only [Op.equalIn,am];refine ⟨_,(az g _).2 rfl,?_⟩;rcases h with ⟨rfl,rfl⟩|⟨⟨f,x,y,rfl⟩,rfl⟩<;>rfl
theorem Od {t C:TypeId} {u:Value} {b:Bool} {F:PH} {D G:Array TypeId} {v:Bool} (B:o.op=.binOp .eql t x y C) (r:ev E x=u) (A:ev E y=.nilFunc) (g:P.underlying t=V (.func D G v)) (h:xT u b):RD P E F o (.bool b):=by
 have w:=h;rcases h with ⟨rfl,rfl⟩|⟨⟨f,z,c,rfl⟩,rfl⟩
 ·exact jT B r A (bo rfl) (jZ g w) rfl
 ·exact jT B r A (bo rfl) (jZ g w) rfl
theorem Oe {t C:TypeId} {u:Value} {b:Bool} {F:PH} {D G:Array TypeId} {v:Bool} (B:o.op=.binOp .neq t x y C) (r:ev E x=u) (A:ev E y=.nilFunc) (g:P.underlying t=V (.func D G v)) (h:xT u b):RD P E F o (.bool (!b)):=by
 have w:=h;rcases h with ⟨rfl,rfl⟩|⟨⟨f,z,c,rfl⟩,rfl⟩
 ·exact jU B r A (bo rfl) (jZ g w) rfl
 ·exact jU B r A (bo rfl) (jZ g w) rfl
theorem LJ {op:BinOp} {t J:TypeId} {K:NV->Prop} (h:LF P σ op t x y K) (r:Rel σ E) (B:o.op=.binOp op t x y J):GP P E o K:=by
 unfold LF at h;split at h
 ·rename_i k a M b g w;split at h
  ·exact TE h B (vk r g) (vk r w)
  ·split at h
   ·rename_i L;obtain rfl:=ζ L;exact TD h B (vk r g) (vk r w)
   ·exact h.elim
 ·rename_i c d g w;split at h
  ·exact .mk (λF=>Tu B (vk r g) (vk r w) h.1) h.2
  ·exact .mk (λF=>Tv B (vk r g) (vk r w)) h
  ·exact .mk (λF=>Tw B (vk r g) (vk r w)) h
  ·exact .mk (λF=>Tf B (vk r g) (vk r w)) h
  ·exact .mk (λF=>Th B (vk r g) (vk r w)) h
  ·exact h.elim
 ·rename_i a g w;split at h
  ·rename_i A;exact .mk (λF=>zY B (aZ r g rfl) (vk r w) A) h
  ·rename_i A;exact .mk (λF=>zZ B (aZ r g rfl) (vk r w) A) h
  ·exact h.elim
 ·rename_i i p g w;split at h
  ·rename_i A;exact .mk (λF=>zY B (aZ r g rfl) (vk r w) A) h
  ·rename_i A;exact .mk (λF=>zZ B (aZ r g rfl) (vk r w) A) h
  ·exact h.elim
 ·rename_i b l c g w;split at h
  ·rename_i A;exact .mk (λF=>CB (s:=⟨b,l,c⟩) B (vk r g) (vk r w) A) h
  ·rename_i A;exact .mk (λF=>CC (s:=⟨b,l,c⟩) B (vk r g) (vk r w) A) h
  ·exact h.elim
 ·rename_i c d g w;split at h
  ·rename_i A;obtain ⟨v,C,D⟩:=h;exact .mk (λF=>N0 B (vk r g) (vk r w) A (C F)) D
  ·rename_i A;obtain ⟨v,C,D⟩:=h;exact .mk (λF=>N7 B (vk r g) (vk r w) A (C F)) D
  ·exact h.elim
 ·rename_i u g w;split at h
  ·rename_i A;obtain ⟨v,C,D⟩:=h;exact .mk (λF=>Od B (aZ r g rfl) (vk r w) A C) D
  ·rename_i A;obtain ⟨v,C,D⟩:=h;exact .mk (λF=>Oe B (aZ r g rfl) (vk r w) A C) D
  ·exact h.elim
 ·split at h
  ·rename_i a b A G H;split at h
   ·exact .mk (λF=>Td B (aZ r rfl (xX G)) (aZ r rfl (xX H)) A) h
   ·exact .mk (λF=>Te B (aZ r rfl (xX G)) (aZ r rfl (xX H)) A) h
   ·exact h.elim
  ·exact h.elim
end
section
variable {P:Program} {σ:Sy} {E:En} {F:PH} {x y:Operand} {o:Oper}
theorem YT {α g:Type} {f:α->g} {l:List α} {a b:g} (h:l.map f=[a,b]):∃x y,l=[x,y]/\f x=a/\f y=b:=by
 rcases l with _|⟨x,_|⟨y,_|⟨z,l⟩⟩⟩<;>simp at h
 exact ⟨x,y,rfl,h⟩
theorem YU {α g:Type} {f:α->g} {l:List α} {a b c:g} (h:l.map f=[a,b,c]):∃x y z,l=[x,y,z]/\f x=a/\f y=b/\f z=c:=by
 rcases l with _|⟨x,_|⟨y,_|⟨z,_|⟨u,l⟩⟩⟩⟩<;>simp at h
 exact ⟨x,y,z,rfl,h⟩
theorem eD {b:Bool} {K:Prop} (h:za b K):b=nk/\K:=by cases b;exact h.elim;exact ⟨rfl,h⟩
theorem xY {d:TypeDesc} (h:XS d=.agg):lA d=nk:=by cases d<;>simp [XS] at h<;>rfl
theorem qP {d:TypeDesc} (h:XS d≠.agg):lA d=mD:=by cases d<;>first|rfl|exact absurd rfl h
theorem Of {t:TypeId} {a:Addr} {K:NV->(PH->Prop)->Prop} (h:Tx P t a F K) (_:Rel σ E) (D:o.op=.load t x) (C:ev E x=.pointer (V a)):
  ∃nv v c,c F/\(∀g:PH,c g->RD P E g o v)/\(∀T,i7 T nv v)/\K nv c:=by
 unfold Tx at h;split at h
 ·exact h.elim
 ·rename_i d hd;split at h
  ·rename_i A;split at h
   ·rename_i n b G;obtain ⟨v,rfl,B,h⟩:=h;exact ⟨.sv (.c (.agg v)),.agg v,λF=>F.row a v,B,λg B=>NT D C hd (xY A) G B,λ_=>rfl,h⟩
   ·exact h.elim
  ·rename_i A;obtain ⟨v,w,h⟩:=h;exact ⟨_,_,_,w,λg w=>NS D C hd (qP A) w,λ_=>tL _ v,h⟩
theorem iP {y:Option Operand} {g:Nat} {K:Nat->Prop} (h:xW σ y g K) (r:Rel σ E):∃l,dt (y.map (ev E)) g l/\K l:=by
 unfold xW at h;split at h
 ·exact ⟨g,xL,h⟩
 ·rename_i y;split at h
  ·rename_i k i w;split at h
   ·split at h
    ·rename_i hi;exact ⟨_,QT (vk r w) (ζ hi),h⟩
    ·exact h.elim
   ·exact ⟨_,QT (vk r w) h.1,h.2⟩
  ·exact h.elim
theorem tM {g:Nat->Option (Nat×Nat)} {n:Nat} (r:Rel σ E):∀(l:List (Nat×Operand)) (cs:Array Value) {K:Array Value->Prop},cs.size=n->XG σ g n l cs K->
  ∃res,Instr.fill g cs (l.map λp=>(p.1,ev E p.2))=V res/\K res
 |[],cs,K,_,h=>⟨cs,rfl,h⟩
 | (i,x)::l,cs,K,hn,h=>by
  unfold XG at h;split at h
  ·exact h.elim
  ·rename_i G s O;have one:∀{v:Value},ev E x=v->v.cells= #[v]->Nat.beq s 1=nk->Nat.blt G n=nk->XG σ g n l (cs.setIfInBounds G v) K->
     ∃res,Instr.fill g cs (((i,x)::l).map λp=>(p.1,ev E p.2))=V res/\K res:=by
    clear h;intro v Q R M N h;obtain rfl:=YH M;obtain ⟨res,B,C⟩:=tM r l _ (by simpa using hn) h;refine ⟨res,?_,C⟩;rw [xA];show Instr.fill g cs ((i,ev E x)::_)=_;rw [Q];exact QR O R (by rw [hn];exact N) B
   split at h
   ·rename_i c A;split at h
    ·rename_i N;obtain ⟨M,h⟩:=h;obtain ⟨res,B,C⟩:=tM r l _ (by rw [dJ];exact hn) h;refine ⟨res,?_,C⟩;rw [xA];show Instr.fill g cs ((i,ev E x)::_)=_;rw [vk r A];exact QS O M (by rw [hn];exact N) B
    ·exact h.elim
   ·rename_i v D A;split at h
    ·rename_i B C;exact one (vk r A) (by cases v<;>first|rfl|exact absurd rfl (D _)) B C h
    ·exact h.elim
   ·exact h.elim
   ·rename_i w D J L;split at h
    ·rename_i v B C H;refine one (aZ r rfl H) ?_ B C h;cases A:σ.ov x<;>rw [A] at H<;>simp only [VW.val] at H<;>first|(cases H;done)|(cases H;rfl)|(exact absurd A (D _))|(exact absurd A (J _))|exact absurd A (L _)
    ·exact h.elim
variable {K:RK}
theorem CL.of (r:Rel σ E) (h:GP P E o λv=>K σ v I):CL P E F o K:=by obtain ⟨nv,v,g,A,w⟩:=h;exact .pure g r w (A _)
theorem LL (h:ZC P σ o F K) (r:Rel σ E):CL P E F o K:=by
 cases ho:o.op<;>simp only [ZC,ho] at h<;>try exact h.elim
 case move x=>exact .pure (λF=>Tc ho rfl) r h (u6 r x)
 case assign x=>exact .pure (λF=>KR ho rfl) r h (u6 r x)
 case pick c a b=>
  split at h
  ·rename_i hc;exact .pure (λF=>xI ho (aZ r hc rfl) (λ_=>rfl) (λh=>by cases h)) r h (u6 r a)
  ·rename_i hc;exact .pure (λF=>xI ho (aZ r hc rfl) (λh=>by cases h) (λ_=>rfl)) r h (u6 r b)
  ·exact h.elim
 case nilCheck x=>
  split at h
  ·rename_i hw;refine .pure (λF=>qij ho (vk r hw)) r h ?_;show Wl _ _ _;rw [<- vk r hw];exact u6 r x
  ·obtain ⟨M,a,L,g,h⟩:=lI h r;exact .pure (λF=>Cz ho g) L h rfl
 case extract x i=>
  split at h
  ·rename_i vs hw;split at h
   ·rename_i v N;exact .pure (λF=>uU ho (vk r hw) N) r h (LI _ v)
   ·exact h.elim
  ·rename_i w hw;obtain ⟨v,N,h⟩:=h;exact .pure (λF=>uU ho (aZ r hw rfl) N) r h (tL _ v)
  ·exact h.elim
 case fieldAddr t x i=>
  split at h
  ·rename_i fs B;split at h
   ·rename_i f hf;split at h
    ·rename_i s b D;obtain ⟨M,a,L,g,h⟩:=lI h r;exact .pure (λF=>qh9 ho g B hf D (by omega)) L h rfl
    ·exact h.elim
   ·exact h.elim
  ·exact h.elim
 case load t x=>
  obtain ⟨M,a,L,g,h⟩:=lI h r;obtain ⟨nv,v,c,A,G,h3,h⟩:=Of h L ho g;exact .chk A G L h (h3 _)
 case indexAddr t x y=>
  split at h
  ·rename_i k i e J B;split at h
   ·rename_i a5 len cap s b g D;obtain ⟨a,rfl,A,G,h⟩:=h;exact .pure (λF=>qhg ho (vk r g) (vk r J) B D A (by exact_mod_cast G)) r h rfl
   ·exact h.elim
  ·rename_i k i n e J B;split at h
   ·rename_i s b D;obtain ⟨M,a,L,g,A,G,h⟩:=lI h r;exact .pure (λF=>qhh ho g (vk r J) B D A (by exact_mod_cast G)) L h rfl
   ·exact h.elim
  ·exact h.elim
 case index t x y=>
  split at h
  ·rename_i s k i g J B;obtain ⟨A,G,h3,v,rfl,h⟩:=h;exact .pure (λF=>CD ho (vk r g) (vk r J) B A (by exact_mod_cast G)) r h rfl
  ·rename_i cs k i n e g J B;split at h
   ·rename_i d s b hd D;split at h
    ·exact h.elim
    ·rename_i H;obtain ⟨A,G,v,N,h⟩:=h;exact .pure (λF=>qia ho (vk r g) (vk r J) B D hd (qP H) A (by exact_mod_cast G) N) r h (tL _ v)
   ·exact h.elim
  ·exact h.elim
 case field t x i=>
  split at h
  ·rename_i cs fs g B;split at h
   ·rename_i f hf;split at h
    ·rename_i d s b hd D;split at h
     ·rename_i H;exact .pure (λF=>KY ho (vk r g) B hf hd (xY H) D) r h rfl
     ·rename_i H;obtain ⟨v,N,h⟩:=h;exact .pure (λF=>KX ho (vk r g) B hf hd (qP H) N) r h (tL _ v)
    ·exact h.elim
   ·exact h.elim
  ·exact h.elim
 case binOp op t x y t'=>exact .of r (LJ h r ho)
 case unOp op t x=>
  split at h
  ·rename_i b g;exact .pure (λF=>KV ho (aZ r g rfl)) r h rfl
  ·rename_i i b g;exact .pure (λF=>KV ho (aZ r g rfl)) r h rfl
  ·rename_i i p d g;refine .pure (v:=.bool (@decide (¬p) (@instDecidableNot p d))) (λF=> ?_) r h rfl;have:=KV (P:=P) (F:=F) ho (aZ r g rfl);rw [show (!@decide p d)= @decide (¬p) (@instDecidableNot p d) by cases d<;>rfl] at this;exact this
  ·rename_i k a g;exact .pure (λF=>qfT ho (vk r g)) r h rfl
  ·exact h.elim
 case convert t t' x=>
  split at h
  ·rename_i k a d k' g B W;exact .pure (λF=>GI ho (vk r g) B W) r h rfl
  ·rename_i b l c e g B W;split at h
   ·rename_i he;obtain ⟨s,hs,h⟩:=h;exact .chk hs (λF' hs=>LC ho (vk r g) B W he ⟨_,_,_,rfl⟩ hs) r h rfl
   ·exact h.elim
  ·exact h.elim
 case slice t x lo hi mx=>
  split at h
  ·rename_i e B;split at h
   ·rename_i b len cap sz z g D;obtain ⟨l,R,h⟩:=iP h r;obtain ⟨u,O,A,G,h⟩:=iP h r;exact .pure (λF=>GK (s:=⟨b,len,cap⟩) ho (vk r g) B D R O A G) r h rfl
   ·exact h.elim
  ·rename_i B;split at h
   ·rename_i s g;obtain ⟨l,R,h⟩:=iP h r;obtain ⟨u,O,A,G,h⟩:=iP h r;exact .pure (λF=>CF ho (vk r g) B R O A G) r h rfl
   ·exact h.elim
  ·rename_i n e B;split at h
   ·rename_i sz z D;obtain ⟨M,a,L,g,h⟩:=lI h r;exact .pure (λF=>uY ho g B D xL xL (yA _) (ru _)) L h rfl
   ·rename_i sz z D a6;obtain ⟨M,a,L,g,h⟩:=lI h r;obtain ⟨l,R,h⟩:=iP h L;obtain ⟨u,O,A,G,h⟩:=iP h L;exact .pure (λF=>uY ho g B D R O A G) L h rfl
   ·exact h.elim
  ·rename_i e m B;split at h
   ·rename_i b len cap sz z k i k' m' g D X hm;obtain ⟨l,R,h0,a0,A,G,h3,h⟩:=iP h r;cases hi with
    |none=>simp at X
    |some hi=>simp only [VD,Option.some.injEq] at X;exact .pure (λF=>CE (s:=⟨b,len,cap⟩) ho (vk r g) B D R (vk r X) (vk r hm) h0 a0 A G h3) r h rfl
   ·exact h.elim
  ·exact h.elim
 case build t parts=>
  split at h
  ·rename_i fs z B D;obtain ⟨H,h⟩:=eD h;obtain ⟨res,A,h⟩:=tM r _ _ rfl h;exact .pure (λF=>qhr ho B D H (by simp) A) r h rfl
  ·rename_i n e z B D;split at h
   ·rename_i s b hs;obtain ⟨res,A,h⟩:=tM r _ _ rfl h;exact .pure (λF=>qhO ho B D hs (by simp) A) r h rfl
   ·exact h.elim
  ·exact h.elim
 case makeFunc fn first cap=>
  cases fn<;>simp only at h<;>try exact h.elim
  obtain ⟨us,A,h⟩:=jY r _ h;obtain ⟨vs,G,h⟩:=jY r _ h;have a1:first.map (ev E)=us.toArray:=by rw [<- A,<- Array.toList_map,Array.toArray_toList]
  have a4:cap.map (ev E)=vs.toArray:=by rw [<- G,<- Array.toList_map,Array.toArray_toList]
  exact .pure (λF=>CA ho a1 a4) r h rfl
 case lookup t x y ok=>
  split at h
  ·rename_i u v kt e O N B;split at h
   ·obtain ⟨q,b,A,h⟩:=h;exact .chk A (λF' A=>Ab ho (aZ r rfl O) (aZ r rfl N) A) r h rfl
   ·obtain ⟨q,A,h⟩:=h;exact .chk A (λF' A=>Ab ho (aZ r rfl O) (aZ r rfl N) A) r h (tL _ q)
  ·exact h.elim
 case entry x=>
  split at h
  ·rename_i u O;obtain ⟨w,A,h⟩:=h;exact .chk A (λF' A=>N8 ho (aZ r rfl O) A) r h rfl
  ·exact h.elim
 case call c=>
  obtain ⟨a2,Q,ts⟩:=c;obtain ⟨Q⟩:=Q;obtain ⟨ts⟩:=ts;cases a2<;>simp only at h<;>try exact h.elim
  rename_i b;split at h
  ·rename_i bs l cp t C;obtain ⟨x,rfl,g⟩:=Zd.1 C;split at h
   ·rename_i B;exact .pure (λF=>NQ (s:=⟨bs,l,cp⟩) ho (vk r g) B) r h rfl
   ·exact h.elim
  ·rename_i s t C;obtain ⟨x,rfl,g⟩:=Zd.1 C;split at h
   ·rename_i B;exact .pure (λF=>KW ho (vk r g) B) r h rfl
   ·exact h.elim
  ·rename_i m t C;obtain ⟨x,rfl,g⟩:=Zd.1 C;obtain ⟨v,A,h⟩:=h;exact .chk A (λF' A=>LD ho (vk r g) A) r h rfl
  ·rename_i bs l cp t C;obtain ⟨x,rfl,g⟩:=Zd.1 C;split at h
   ·rename_i B;exact .pure (λF=>NR (s:=⟨bs,l,cp⟩) ho (vk r g) B) r h rfl
   ·exact h.elim
  ·rename_i k a k' b' C;obtain ⟨x,y,rfl,g,J⟩:=YT C;obtain ⟨H,h'⟩:=eD h;obtain rfl:=ζ H;exact .pure (λF=>Ti ho (vk r g) (vk r J)) r h' rfl
  ·rename_i k a k' b' C;obtain ⟨x,y,rfl,g,J⟩:=YT C;obtain ⟨H,h'⟩:=eD h;obtain rfl:=ζ H;exact .pure (λF=>Tj ho (vk r g) (vk r J)) r h' rfl
  ·rename_i k a k' b' a3 c' C;obtain ⟨x,y,z,rfl,g,J,D⟩:=YU C;obtain ⟨H,h'⟩:=eD h;obtain ⟨rfl,rfl⟩:=ζ H;exact .pure (λF=>Tm ho (vk r g) (vk r J) (vk r D)) r h' rfl
  ·rename_i k a k' b' a3 c' C;obtain ⟨x,y,z,rfl,g,J,D⟩:=YU C;obtain ⟨H,h'⟩:=eD h;obtain ⟨rfl,rfl⟩:=ζ H;exact .pure (λF=>Tn ho (vk r g) (vk r J) (vk r D)) r h' rfl
  ·exact h.elim
end
theorem TF {F:PH} {b:Nat} {o:Obj} (h:F b=I):F.le (F.set b o):=λx u g=>by
 have:x≠b:=λe=>by rw [e,h] at g;cases g
 rw [CH _ _ this];exact g
section
variable {P:Program} {σ:Sy} {E:En} {F:PH} {x y z:Operand} {o:Oper}
def KK (F:PH) (E:En) (o:Oper) (K:EK) (E':En) (F':PH):Prop:=∃fl σ',(fl=nk->F.le F')/\Rel σ' E'/\(∀t,o.dst≠V t->E' t=E t)/\K fl σ' F'
def TG (P:Program) (E:En) (F:PH) (o:Oper) (K:EK):Prop:=aG P (execOp (ev E) o) F (bJ P (KK F E o K) o E)
theorem qQ {d:Option Tmp} {v:Value} {t:Nat} (h:d≠V t):cQ E d v t=E t:=by
 cases d with
 |none=>rfl
 |some d=>simp only [cQ,upd,lz (λe:t=d=>h (by rw [e]))];rfl
variable {K:EK}
theorem KK.mk {nv:NV} {v:Value} {w:PH} {g:Bool} (r:Rel σ E) (h:K g (σ.putO o.dst nv) w) (A:i7 σ.T nv v) (C:g=nk->F.le w):KK F E o K (cQ E o.dst v) w:=
 ⟨g,_,C,r.putO A,λ_ B=>qQ B,h⟩
theorem KK.f {nv:NV} {v:Value} {g:PH} (r:Rel σ E) (h:K mD (σ.putO o.dst nv) g) (w:i7 σ.T nv v):KK F E o K (cQ E o.dst v) g:=KK.mk r h w (λh=>by cases h)
theorem iQ {g:Obj} {s:Nat->SV} {v:Nat->Value} (h:XC σ o.dst g s F K) (r:Rel σ E) (A:∀b,Wl σ.T (s b) (v b)):∀b,F b=I->KK F E o K (cQ E o.dst (v b)) (F.set b g):=
 λb w=>KK.mk r (Yb (h b w)) (A b) (λ_=>TF w)
theorem Og {d:Option Tmp} {t:TypeId} {v:Value} {K:Sy->Prop} (h:Ae P σ d t v K) (r:Rel σ E):∃g,Rel g (cQ E d v)/\K g:=by
 unfold Ae at h;split at h
 ·exact ⟨σ,r,h⟩
 ·rename_i d;split at h
  ·split at h
   ·obtain ⟨rfl,h⟩:=h;exact ⟨_,r.put (show i7 σ.T (.sv (.c (.tuple _))) _ from rfl),h⟩
   ·obtain ⟨a,rfl,h⟩:=h;exact ⟨_,r.put (show i7 σ.T (.sv (.c (.tuple _))) _ from rfl),h⟩
   ·obtain ⟨a,b,rfl,h⟩:=h;exact ⟨_,r.put (show i7 σ.T (.sv (.c (.tuple _))) _ from rfl),h⟩
   ·obtain ⟨a,b,c,rfl,h⟩:=h;exact ⟨_,r.put (show i7 σ.T (.sv (.c (.tuple _))) _ from rfl),h⟩
   ·obtain ⟨a,b,c,e,rfl,h⟩:=h;exact ⟨_,r.put (show i7 σ.T (.sv (.c (.tuple _))) _ from rfl),h⟩
   ·obtain ⟨a,b,c,e,f,rfl,h⟩:=h;exact ⟨_,r.put (show i7 σ.T (.sv (.c (.tuple _))) _ from rfl),h⟩
   ·exact h.elim
  ·obtain ⟨a,rfl,h⟩:=h;exact ⟨_,r.put (tL _ a),h⟩
theorem CM {t:TypeId} {v:Value} {w:PH} (h:Ae P σ o.dst t v λσ=>K mD σ w) (r:Rel σ E):KK F E o K (cQ E o.dst v) w:=by obtain ⟨g,B,h⟩:=Og h r;exact ⟨mD,g,(λh=>by cases h),B,λ_ A=>qQ A,h⟩
theorem qR {w:VW} {v:Value} (g:w.val=V v) (h:∀c,w≠.c (.agg c)) (r:∀u,w≠.any u):v.cells= #[v]:=by
 cases w<;>simp only [VW.val] at g<;>first|(cases g;done)|(cases g;rfl)|exact absurd rfl (r _)|skip
 rename_i u;cases g;cases v<;>first|rfl|exact absurd rfl (h _)
theorem LM {w:VW} {v:Value} (g:w.val=V v) (r:∀c,w≠.c (.agg c)) (A:∀u,w≠.any u) (D:∀u,w≠.c (.tuple u)) (C:∀u,w≠.vt u) (B:w≠.und):ak v:=by
 cases w<;>simp only [VW.val] at g<;>first|(cases g;done)|exact absurd rfl (A _)|exact absurd rfl (C _)|exact absurd rfl B|skip
 all_goals cases g
 case c.refl=>exact ⟨λc e=>r c (by rw [e]),λc e=>D c (by rw [e])⟩
 all_goals exact ⟨(λ_ h=>by cases h),(λ_ h=>by cases h)⟩
theorem FB (r:Rel σ E):∀(l:List (Nat×Operand)) (k:Nat) {us:List Value},Oa σ k l=V us->(l.map λp=>(p.1,ev E p.2))=Fu k us/\NY us/\us.length=l.length
 |[],k,us,h=>by cases h;exact ⟨rfl,trivial,rfl⟩
 | (i,x)::l,k,us,h=>by
  unfold Oa at h;split at h
  ·cases h
  ·cases h
  ·rename_i hi w B;split at h
   ·rename_i v vs g D;cases h;obtain ⟨A,G,C⟩:=FB r l _ D;obtain rfl:=YH hi;refine ⟨?_,⟨qR g (λc e=>w c e) (λu e=>B u e),G⟩,by simp [C]⟩;rw [xA,A];show (i,ev E x)::_=(i,v)::_;rw [aZ r rfl g]
   ·cases h
  ·cases h
theorem LN {t:TypeId} {s:ByteArray} {K:En->PH->Prop} (w:o.op=.range t x) (r:ev E x=.string s) (g:P.underlying t=V .string) (h:∀b,F b=I->K (cQ E o.dst (.pointer (V ⟨b,0,I⟩))) (F.set b (.stringIter s 0))):
  aG P (execOp (ev E) o) F (bJ P K o E):=by
 simp only [execOp,w,r,Instr.range,aD,bW g,aL,newObj,aG,bJ];exact h
theorem LO {t:TypeId} {v:Value} {K:En->PH->Prop} (A:o.op=.range t x) (g:ev E x=v) (h:aG P (Instr.range t v) F λr w=>K (cQ E o.dst r) w):aG P (execOp (ev E) o) F (bJ P K o E):=by simp only [execOp,A,g,aD,aL,bJ];exact h
theorem TH {v:Value} {is:Bool} {K:En->PH->Prop} (A:o.op=.next x is) (g:ev E x=v) (h:aG P (Instr.next v is o.type) F λr w=>K (cQ E o.dst r) w):aG P (execOp (ev E) o) F (bJ P K o E):=by simp only [execOp,A,g,aD,aL,bJ];exact h
theorem LP {t:TypeId} {u v q:Value} {K:En->PH->Prop} (B:o.op=.insert t x y z) (g:ev E x=u) (r:ev E y=v) (A:ev E z=q)
  (h:aG P (Instr.mapUpdate t u v q) F λ_ w=>K (cQ E o.dst undef) w):aG P (execOp (ev E) o) F (bJ P K o E):=by
 subst g r A;have:execOp (ev E) o=execOp (ev E) {o with op:=.mapUpdate t x y z}:=by simp only [execOp,B]
 rw [this];exact oY (o:={o with op:=.mapUpdate t x y z}) rfl rfl rfl rfl h
theorem LQ {g:Array TypeId} {u v:Value} {K:En->PH->Prop} (C:o.op=.call ⟨.builtin .delete,#[x,y],g⟩) (w:ev E x=u) (A:ev E y=v) (h:aG P (Builtin.delete_ g o.type #[u,v]) F λr B=>K (cQ E o.dst r) B):
  aG P (execOp (ev E) o) F (bJ P K o E):=by
 simp [execOp,C,resolve,w,A,invoke,builtin,bJ];exact h
theorem LU (h:ZA P σ o F K) (r:Rel σ E):TG P E F o K:=by
 cases ho:o.op<;>simp only [ZA,ho] at h<;>try exact h.elim
 case alloc t=>
  split at h
  ·rename_i z G;exact NU ho G (iQ h r (λ_=>rfl))
  ·exact h.elim
 case box t x=>
  split at h
  ·rename_i c R;exact KZ ho (vk r R) (iQ h r (λ_=>rfl))
  ·rename_i v R;obtain ⟨H,h⟩:=h;rw [<- H] at h;exact KZ ho (aZ r R rfl) (iQ h r (λ_=>rfl))
  ·rename_i D L;split at h
   ·rename_i v A;have H:v.cells= #[v]:=qR A (λc e=>D c e) (λu e=>L u e);rw [<- H] at h;exact KZ ho (aZ r rfl A) (iQ h r (λ_=>rfl))
   ·exact h.elim
 case buildSlice t m parts=>
  split at h
  ·rename_i e ht;split at h
   ·rename_i s b z G W;split at h
    ·rename_i hm hs h0;have X:m*s<=16777216:=Zf hm;have C:z.cells.size=s:=YH hs;split at h
     ·rename_i l D L hl;obtain rfl:=YH D;obtain ⟨e1,e2,e3⟩:=FB r _ _ hl;exact iL ho ht G X W (by simpa using e1) (NZ (by rw [e3];exact YH L) rfl C e2) (by rw [C]) (iQ h r (λ_=>rfl))
     ·split at h
      ·rename_i c a5 hn;obtain ⟨a3,h⟩:=h;obtain ⟨p,hp,a1⟩:=Zd.1 a5;obtain ⟨i,x⟩:=p;simp only [Ys] at a1;obtain ⟨rfl,hx⟩:=a1;exact iL (vs:=[(0,.agg c)]) ho ht G X W (by simp [hp,vk r hx]) (GL a3 C h0) (by rw [C]) (iQ h r (λ_=>rfl))
      ·obtain ⟨res,e1,h⟩:=tM r _ _ (by rw [<- qL _ (by rw [C];exact h0)];simp [Builtin.zeroCells,C]) h;refine iL (vs:=parts.toList.map λp=>(p.1,ev E p.2)) ho ht G X W (by simp) (cells:=res) ?_ (by rw [C]) (iQ h r (λ_=>rfl));rw [qL _ (by rw [C];exact h0)];exact e1
    ·exact h.elim
   ·exact h.elim
  ·exact h.elim
 case store t x y=>
  obtain ⟨a6,a,r',hx,h⟩:=lI h r;have st:∀{v:Value} {b:Nat},ev E y=v->vy P t=V (1,b)->v.cells= #[v]->ak v->pv F a v (λF=>K mD (a6.putO o.dst (.sv .und)) F)->TG P E F o K:=by intro v b Q G H a4 ⟨c,e,D,L,h3,h4⟩;exact K9 ho hx Q G H rfl a4 L D h3 (KK.f r' (Yb h4) rfl)
  split at h
  ·rename_i v n b Q G;obtain ⟨D,L,c,e,h3,h4,h5,h6⟩:=h;refine La ho hx (vk r' Q) G D L (λh0=> ?_) h4 h3 h5 (KK.f r' (Yb h6) rfl);have:v.toList.length=0:=by rw [h0];rfl
   simp at this;simp [this] at D
  ·exact h.elim
  ·rename_i v b a0 a2 Q G;exact st (vk r' Q) G (qR (w:=.c v) rfl (λc e=>a0 c (by cases e;rfl)) (λu e=>by cases e)) (LM (w:=.c v) rfl (λc e=>a0 c (by cases e;rfl)) (λu e=>by cases e) (λc e=>a2 c (by cases e;rfl)) (λu e=>by cases e) (λe=>by cases e)) h
  ·rename_i v b Q G;exact st (aZ r' Q rfl) G h.2.1 h.1 h.2.2
  ·exact h.elim
  ·exact h.elim
  ·rename_i b G L h3 h4 h5 h6 h7;split at h
   ·rename_i v A;exact st (aZ r' rfl A) G (qR A (λc e=>L c e) (λu e=>h5 u e)) (LM A (λc e=>L c e) (λu e=>h5 u e) (λc e=>h3 c e) (λu e=>h6 u e) (λe=>h7 e)) h
   ·exact h.elim
  ·exact h.elim
 case range t x=>
  split at h
  ·rename_i s ht hx;exact LN ho (vk r hx) ht (iQ h r (λ_=>rfl))
  ·split at h
   ·rename_i v A;exact LO ho (aZ r rfl A) (df _ _ h λu M ⟨b,N,h⟩=>by subst N;exact KK.f r h rfl)
   ·exact h.elim
  ·exact h.elim
 case next x is=>
  split at h
  ·rename_i v A;exact TH ho (aZ r rfl A) (df _ _ h λu M ⟨b,N,h⟩=>by subst N;exact KK.f r h rfl)
  ·exact h.elim
 case makeSlice t x y=>
  split at h
  ·rename_i u v J A;exact Aa ho (aZ r rfl J) (aZ r rfl A) (df _ _ h λu M ⟨b,N,h⟩=>by subst N;exact KK.f r h rfl)
  ·exact h.elim
 case makeMap t q=>
  cases q<;>simp only at h<;>try exact h.elim
  exact CI ho (iQ h r (λ_=>rfl))
 case mapUpdate t x y z=>
  split at h
  ·rename_i u v w J A R;exact oY ho (aZ r rfl J) (aZ r rfl A) (aZ r rfl R) (df _ _ h λu M h=>KK.f r h rfl)
  ·exact h.elim
 case insert t x y z=>
  split at h
  ·rename_i u v w J A R;exact LP ho (aZ r rfl J) (aZ r rfl A) (aZ r rfl R) (df _ _ h λu M h=>KK.f r h rfl)
  ·exact h.elim
 case defer c=>
  obtain ⟨O,B,ts⟩:=c;obtain ⟨B⟩:=B;cases O with
  |value g=>
   obtain ⟨us,D,h⟩:=jY r _ h;split at h
   ·rename_i f a b hg;exact NX ho (vk r hg) (by rw [<- D];simp) h.1 (KK.f r h.2 rfl)
   ·exact h.elim
  |_=>exact h.elim
 case call c=>
  obtain ⟨O,B,ts⟩:=c;obtain ⟨B⟩:=B;cases O with
  |invoke=>exact h.elim
  |builtin b=>
   simp only at h;split at h
   ·split at h
    ·rename_i x y u v J A;exact Lc ho (aZ r rfl J) (aZ r rfl A) (df _ _ h λu M ⟨b,N,h⟩=>by subst N;exact KK.f r h rfl)
    ·exact h.elim
   ·split at h
    ·rename_i x y u v J A;exact Tp ho (aZ r rfl J) (aZ r rfl A) (df _ _ h λu M ⟨b,N,h⟩=>by subst N;exact KK.f r h rfl)
    ·exact h.elim
   ·split at h
    ·rename_i x y u v J A;exact LQ ho (aZ r rfl J) (aZ r rfl A) (df _ _ h λu M h=>KK.f r h True.intro)
    ·exact h.elim
   ·exact h.elim
  |value g=>
   have cF:∀(h:xU σ B λvs=>(match σ.ov g with
     | .c (.func (.func f) a b)=>za (aF P f) (aj P f (a++vs.toArray++b) F λv F=>Ae P σ o.dst o.type v λσ=>K mD σ F)
     | .any u=>∃(k:Nat) (a b:Array Value),u=.func (.func k) a b/\aF P k=nk/\aj P k (a++vs.toArray++b) F λv F=>Ae P σ o.dst o.type v λσ=>K mD σ F
     |_=>False)),TG P E F o K:=by
    intro h;obtain ⟨us,D,h⟩:=jY r _ h;split at h
    ·rename_i f a b hg;obtain ⟨H,h⟩:=eD h;exact Ft ho (vk r hg) H (by rw [<- D];simp) (h.mono λv M h=>CM h r)
    ·rename_i u hg;obtain ⟨f,a,b,rfl,H,h⟩:=h;exact Ft ho (aZ r hg rfl) H (by rw [<- D];simp) (h.mono λv M h=>CM h r)
    ·exact h.elim
   cases g with
   |func f=>obtain ⟨us,D,h⟩:=jY r _ h;obtain ⟨H,h⟩:=eD h;exact To ho H (by rw [<- D];simp) (h.mono λv M h=>CM h r)
   |_=>exact cF h
end
section
variable {P:Program} {σ:Sy} {E:En} {F:PH} {n:Nat} {ops:Array Oper}
def Fr (M:List Nat) (E E':En):Prop:=∀t,py M t=mD->E' t=E t
theorem Af {a b:List Nat} {t:Nat}:py (a++b) t=mD↔py a t=mD/\py b t=mD:=by
 induction a with
 |nil=>simp [py]
 |cons x a ih=>simp only [zK,py];cases Nat.beq t x<;>simp [ih]
theorem Fr.refl {M:List Nat} {E:En}:Fr M E E:=λ_ _=>rfl
theorem Fr.trans {M:List Nat} {E r g:En} (h:Fr M E r) (A:Fr M r g):Fr M E g:=λt w=>(A t w).trans (h t w)
theorem Fr.left {a b:List Nat} {E g:En} (h:Fr a E g):Fr (a++b) E g:=λt r=>h t (Af.1 r).1
theorem Fr.right {a b:List Nat} {E g:En} (h:Fr b E g):Fr (a++b) E g:=λt r=>h t (Af.1 r).2
theorem tN {M:List Nat} {d:Nat} (h:d∈M) {t:Nat} (g:py M t=mD):t≠d:=by
 induction M with
 |nil=>cases h
 |cons x M ih=>
  simp only [py] at g;intro e;subst e;rcases tS.1 h with rfl|h
  ·have:Nat.beq t t=nk:=by simp
   rw [this] at g;cases g
  ·cases hb:Nat.beq t x<;>rw [hb] at g
   ·exact ih h g rfl
   ·cases g
theorem CN {M:List Nat} {d:Option Tmp} {v:Value} (h:∀t,d=V t->t∈M):Fr M E (cQ E d v):=λt g=>qQ λe=>tN (h t e) g rfl
theorem Ah {l:List Oper} {o:Oper} {d:Nat} (g:o∈l) (hd:o.dst=V d):d∈LG l:=by
 induction l with
 |nil=>cases g
 |cons x l ih=>
  unfold LG;rcases tS.1 g with rfl|g
  ·rw [hd];exact XA ..
  ·split
   ·exact Vz _ (ih g)
   ·exact ih g
def QK (M:List Nat) (E0:En) (K:CK):Exit->En->PH->Prop:=λex E F=>(∃σ,Rel σ E/\K ex σ F)/\Fr M E0 E
inductive GOk (ops:Array Oper) (σ:Sy) (E:En) (o:Oper):G->Prop
 |go (h:Region.wanted o (yE ops E)=nk):GOk ops σ E o .go
 |no (h:Region.wanted o (yE ops E)=mD):GOk ops σ E o .no
 |split (i:Nat) (b:SB) (want v:Bool) (hi:σ.T i=V b) (hv:b.v=.bool v) (h:Region.wanted o (yE ops E)=(v==want)):GOk ops σ E o (.split i b want)
 |bad:GOk ops σ E o .bad
theorem Q4 {j t:Nat} (g:(ops[j]?).bind (·.dst)=V t):yE ops E j=(match E t with| .bool b=>V b|_=>I):=by unfold yE;rw [g]<;>rfl
theorem cZ (r:Rel σ E) {t:Nat} {w:VW} {v:Value} (h:σ.vw t=w) (g:w.val=V v):E t=v:=Q3 (r.val t) (by rw [<- h] at g;exact g)
theorem CO (r:Rel σ E) (o:Oper):GOk ops σ E o (Yc ops σ o):=by
 unfold Yc;split
 ·rename_i C;exact .go (by unfold Region.wanted;rw [C])
 ·rename_i j g C;have A:∀y,Region.wanted o y=(y j==V g):=λy=>by unfold Region.wanted;rw [C]
  split
  ·rename_i G;refine .no ?_;rw [A];unfold yE;rw [G];rfl
  ·rename_i t D;have B:∀{b:Bool},E t=.bool b->Region.wanted o (yE ops E)=(b==g):=by intro b B;rw [A,Q4 D,B];cases b<;>cases g<;>rfl
   split
   ·rename_i b h;have:=B (cZ r h rfl);split
    ·rename_i w;exact .go (by rw [this];exact w)
    ·rename_i w;exact .no (by rw [this];exact w)
   ·rename_i h;refine .no ?_;rw [A,Q4 D,cZ r h rfl];rfl
   ·rename_i i b h;exact .split i _ g b (LH h) rfl (B (cZ r h rfl))
   ·rename_i i p d h;exact .split i _ g _ (Oc h) rfl (B (cZ r h rfl))
   ·exact .bad
theorem LV {b:SB} {v:Bool} {f:Bool->Prop} (h:Zz b f) (g:b.v=.bool v):f v:=by
 unfold Zz at h;split at h
 ·rename_i b;obtain rfl:b=v:=by simpa [SB.v] using g
  cases b
  ·exact h.2 rfl
  ·exact h.1 rfl
 ·rename_i p d;have: @decide p d=v:=by simpa [SB.v] using g
  cases v
  ·exact h.2 (ι this)
  ·exact h.1 (ζ this)
 ·exact h.elim
theorem TJ {Q:Exit->En->PH->Prop} {o:Oper} {l:List Oper} {K:Sy->PH->Prop} (H:Region.wanted o (yE ops E)=nk) (hd:fC n o.dst=nk) (h:Zm P o K σ F) (r:Rel σ E)
  (k:∀g G C,Rel g G->(∀t,o.dst≠V t->G t=E t)->K g C->HL P n ops Q l G C):HL P n ops Q (o::l) E F:=by
 unfold Zm at h;split at h
 ·obtain ⟨g,nv,R,v,O,w,M,_,h⟩:=LL h r;exact qfF O (k _ _ _ (w.putO M) (λ_ N=>qQ N) h) H hd
 ·have:=LU h r;refine QJ H hd (df _ _ this ?_);intro L C B;cases L with
  |value v=>obtain ⟨D,g,_,w,A,h⟩:=B;exact k _ _ _ w A h
  |skip=>obtain ⟨D,g,_,w,A,h⟩:=B;exact k _ _ _ w A h
  |enter f J=>exact B.mono λv C ⟨D,g,_,w,A,h⟩=>k _ _ _ w A h
  |defer d=>obtain ⟨hi,D,g,_,w,A,h⟩:=B;exact ⟨hi,k _ _ _ w A h⟩
  |_=>exact B
theorem CP {M:List Nat} {C:En} {K:CK}:∀(l:List Oper) (σ:Sy) (E:En) (F:PH),(∀o∈l,∀t,o.dst=V t->t∈M)->Fr M C E->XQ P n ops (K .normal) l σ F->Rel σ E->HL P n ops (QK M C K) l E F
 |[],σ,E,F,_,fr,h,r=>Ta ⟨⟨σ,r,h⟩,fr⟩
 |o::l,σ,E,F,hM,fr,h,r=>by
  unfold XQ at h;obtain ⟨hd,h⟩:=eD h;have step:∀{σ:Sy},Rel σ E->Region.wanted o (yE ops E)=nk->Zm P o (XQ P n ops (K .normal) l) σ F->HL P n ops (QK M C K) (o::l) E F:=λr w h=>
   TJ w hd h r λD L Q B R N=>CP l D L Q (λo G=>hM o (Vz _ G))
    (fr.trans λt O=>R t λe=>tN (hM o (XA ..) t e) O rfl) N B
  have skip:∀{σ:Sy},Rel σ E->Region.wanted o (yE ops E)=mD->XQ P n ops (K .normal) l (σ.putO o.dst (.sv .und)) F->HL P n ops (QK M C K) (o::l) E F:=λr w h=>
   NI w hd (CP l _ _ F (λo G=>hM o (Vz _ G)) (fr.trans (CN λt e=>hM o (XA ..) t e)) h (r.putO rfl))
  have g:=CO (ops:=ops) r o;revert h g;cases Yc ops σ o with
  |go=>intro h g;cases g with|go w=>exact step r w h
  |no=>intro h g;cases g with|no w=>exact skip r w h
  |bad=>intro h g;exact h.elim
  |split i b H=>
   intro h g;cases g with
   |split _ _ _ v hi J w=>
    have h:=LV h J;have B:Rel (σ.rf i (.lit v)) E:=r.rf hi J;split at h
    ·rename_i A;exact step B (by rw [w];exact A) h
    ·rename_i A;exact skip B (by rw [w];exact A) h
end
inductive PW:Pn->cv->Prop
 |nil:PW [] []
 |cons {i:Nat} {c:PH->Prop} {S:World->Prop} {pend:Pn} {Sp:cv} (h:∀F,c F->Cy F S) (t:PW pend Sp):PW ((i,c)::pend) ((i,S)::Sp)
theorem PW.rest {o:Oper} {g:Pn} {r:cv} (h:PW g r):PW (g.filter λp=> !Oper.waits .any o p.1) (cv.rest .any o r):=by
 induction h with
 |nil=>exact .nil
 |cons h t ih=>
  rename_i i c S g r;unfold cv.rest at*;simp only [List.filter_cons];cases Oper.waits .any o i
  ·exact .cons h ih
  ·exact ih
theorem Oh {F:PH} {g:Pn} {w:cv} (h:PW g w) {K:Prop} (r:Ty F g K):fX w F/\K:=by
 induction h with
 |nil=>exact ⟨QU,r⟩
 |cons h t ih=>exact ⟨QV (h _ r.1) (ih r.2).1,(ih r.2).2⟩
theorem Oi {F A:PH} {S:World->Prop} (B:F.le A) (h:Cy F S):Cy A S:=λe w st=>h e w
 ⟨st.os,st.tape,st.output,λb o g=>st.heap b o (B b o g),λb o g=>⟨(by
  cases hF:F b with
  |none=>rfl
  |some u=>
   have r:=(st.frame b o g).1;rw [B b u hF] at r
   cases r),(st.frame b o g).2⟩⟩
theorem Oj {F w:PH} {g:cv} (B:F.le w) (h:fX g F):fX g w:=λr A=>Oi B (h r A)
theorem GQ {F:PH} {o:Oper} {g:cv} (h:fX g F):fX (cv.rest .any o g) F:=λr w=>h r (X2.1 w).1
theorem FC:∀{l:List Prop},Tz l->∀p∈l,p
 |[],h=>h.elim
 |[p],h=>by intro q r;rw [vu] at r;subst r;exact h
 |p::q::l,h=>by
  intro u g;rcases tS.1 g with rfl|g
  ·exact h.1
  ·exact FC h.2 u g
theorem Ai {ops:Array Oper} {w:Sy} {i:Nat} {o:Oper} {g:G}:∀{l:List Nat},u0 ops w l=V (i,o,g)->ops[i]? =V o/\Yc ops w o=g
 |[],h=>by cases h
 |j::l,h=>by
  unfold u0 at h;split at h
  ·cases h
  ·rename_i u r;split at h
   ·rename_i A;split at h
    ·cases h;exact ⟨r,A⟩
    ·exact Ai h
   ·cases h;exact ⟨r,rfl⟩
theorem Aj {ops:Array Oper} {r:Sy}:∀{l:List Nat},u0 ops r l=I->(∀i∈l,ops[i]?≠I)->∀i∈l,∀o,ops[i]? =V o->Yc ops r o=.go
 |[],_,_=>λi hi=>by cases hi
 |j::l,h,hn=>by
  unfold u0 at h;split at h
  ·rename_i B;exact absurd B (hn j (XA ..))
  ·rename_i u A;split at h
   ·rename_i w;split at h
    ·cases h
    ·intro i hi o g;rcases tS.1 hi with rfl|hi
     ·rw [A] at g;cases g;exact w
     ·exact Aj h (λi hi=>hn i (Vz _ hi)) i hi o g
   ·cases h
section
variable {P:Program} {n:Nat} {ops:Array Oper} {M:List Nat} {E0:En} {K:CK}
theorem CQ {o:Oper} {E:En} {F:PH} {A B:En->PH->Prop} (h:aG P (execOp (ev E) o) F (bJ P A o E)) (g:∀C w,A C w->B C w):aG P (execOp (ev E) o) F (bJ P B o E):=
 df _ _ h λG w r=>by
  cases G with
  |value v=>exact g _ _ r
  |skip=>exact g _ _ r
  |enter f D=>exact r.mono λv w h=>g _ _ h
  |defer d=>exact ⟨r.1,g _ _ r.2⟩
  |_=>exact r
def j9 (K:CK):Prop:=∀c σ F,¬K (.panic c) σ F
theorem lJ (J:j9 K) (C:∀o∈ops.toList,∀t,o.dst=V t->t∈M):∀(k fuel:Nat) (listed:Array Bool) (w:Pn) (G:cv) (O:Sy) (E:En) (F:PH),Fr M E0 E->PW w G->fX G F->
  XP P n ops (K .normal) k fuel listed w O F->Rel O E->RG P n ops (QK M E0 K) fuel listed G E F
 |0,fuel,listed,w,G,O,E,F,fr,pw,hh,h,r=>by unfold XP at h;exact h.elim
 |k+1,fuel,listed,w,G,O,E,F,fr,pw,hh,h,r=>by
  have hp:∀c E F,¬QK M E0 K (.panic c) E F:=λc E F ⟨⟨O,_,h⟩,_⟩=>J c O F h;have mem:∀{i:Nat} {o:Oper},ops[i]? =V o->o∈ops.toList:=λh=>by rw [<- YI] at h;exact vO h
  unfold XP at h;split at h
  ·rename_i hr;exact NM hr ⟨⟨O,r,h⟩,fr⟩
  ·rename_i rs a3;split at h
   ·exact h.elim
   ·rename_i fuel;split at h
    ·rename_i i o g H;obtain ⟨hi,hg⟩:=Ai H;obtain ⟨hb,h⟩:=eD h;simp only [VT] at hb;obtain ⟨⟨⟨h1,h2⟩,h3⟩,h4⟩:=hb;have N:=CO (ops:=ops) r o;rw [hg] at N;split at h
     ·cases N with
      |no L=>exact NO hi h1 h2 h3 h4 hp L hh (lJ J C k fuel _ w G _ _ F (fr.trans (CN λt e=>C o (mem hi) t e)) pw hh h (r.putO rfl))
     ·rename_i j b a4;cases N with
      |split _ _ _ v hj hv L=>have h:=LV h hv;exact lJ J C k (fuel+1) _ w G _ _ F fr pw hh h (r.rf hj hv)
     ·cases N with
      |go L=>
       obtain ⟨a1,nv,ck,v,hy,R,X,a0,h⟩:=LL h r;have A:Fr M E0 (cQ E o.dst v):=fr.trans (CN λt e=>C o (mem hi) t e);cases ck with
       |none=>exact qfH hi h1 h2 h3 h4 hp L a0 hh (lJ J C k fuel _ w G _ _ F A pw hh h (R.putO X))
       |some c=>refine qfG hi h1 h2 h3 h4 hp L hy hh (lJ J C k fuel _ ((i,c)::w) _ _ _ F A (.cons (λF hc=>Fs (a0.2 F hc)) pw) (QV (Fs hy) hh) h (R.putO X))
     ·exact h.elim
    ·rename_i H;have W:=FC h;have Q:∀i∈Region.ready .any ops listed,∃o,ops[i]? =V o/\_:=λi hi=>by
      have:=W _ (xv.2 ⟨i,hi,rfl⟩);split at this
      ·exact this.elim
      ·rename_i o D;exact ⟨o,D,this⟩
     have a2:=Aj H (λi hi e=>by obtain ⟨o,D,_⟩:=Q i hi;rw [e] at D;cases D);refine Tb rfl (by cases hl:Region.ready .any ops listed with|nil=>exact absurd hl a3|cons _ _=>rfl) λi hi=> ?_;obtain ⟨o,D,hx⟩:=Q i hi;obtain ⟨hd,hx⟩:=eD hx;have N:=CO (ops:=ops) r o;rw [a2 i hi o D] at N;cases N with
     |go L=>
      refine ⟨o,D,hd,L,CQ (LU hx r) ?_⟩;rintro E' F' ⟨fl,a1,hl,R,hf,h⟩;have A:Fr M E0 E':=fr.trans λt ht=>hf t λe=>tN (C o (mem D) t e) ht rfl;cases fl with
      |true=>have B:=Oj (hl rfl) (GQ (o:=o) hh);exact ⟨B,lJ J C k fuel _ _ _ _ _ F' A pw.rest B h R⟩
      |false=>obtain ⟨B,h⟩:=Oh pw.rest h;exact ⟨B,lJ J C k fuel _ _ _ _ _ F' A pw.rest B h R⟩
end
end Go.Proofs.YteilolbbgieadaaGreatDoor.Rx
