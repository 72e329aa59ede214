/-
  A reader of code. Part 6: regions in any order; code; functions.
-/
import Derived.Orders
import Derived.Tactics
import Derived.RowKit3
import Derived.OrdersHeld
import Derived.Scope
import Derived.Defers
import Derived.Laws.Append
import Derived.Test.YteilolbbgieadaaGreatDoorRows
import Derived.WalkKit
import Derived.ProofKit
import Derived.OpenShut
import Derived.SizedLaws
import Derived.Carry
import Derived.Deep.Slices
import Derived.Test.YteilolbbgieadaaGreatDoorProg
import Derived.KernelRfl
open Option renaming some->V,none->I
open Go.Obj renaming cells->Y
open Bool renaming false->mz,true->mY
open Go.Addr renaming add->nR,mk->ou
namespace Go.Proofs.YteilolbbgieadaaGreatDoor
open Go
theorem vx {a b:Nat} (h:Nat.ble (a+1) b=true):a<b:=Nat.le_of_ble_eq_true h
theorem Υ:type_of%@if_neg:=@if_neg
theorem Χ:type_of%@if_pos:=@if_pos
theorem δ:type_of%@decide_eq_true_eq:=@decide_eq_true_eq
theorem ε:type_of%@decide_eq_true:=@decide_eq_true
theorem ζ:type_of%@of_decide_eq_true:=@of_decide_eq_true
theorem η:type_of%@decide_eq_false:=@decide_eq_false
theorem ι:type_of%@of_decide_eq_false:=@of_decide_eq_false
theorem μ:type_of%@not_not_intro:=@not_not_intro
theorem N4:type_of%@Int.toNat_natCast:=@Int.toNat_natCast
theorem N5:type_of%@List.getElem?_eq_getElem:=@List.getElem?_eq_getElem
theorem N6:type_of%@List.getElem?_eq_some_iff:=@List.getElem?_eq_some_iff
theorem tT:type_of%@List.length_append:=@List.length_append
theorem qX:type_of%@Nat.le_refl:=@Nat.le_refl
theorem tD:type_of%@List.mem_cons:=@List.mem_cons
theorem ub:type_of%@List.length_map:=@List.length_map
theorem vQ:type_of%@List.mem_of_getElem?:=@List.mem_of_getElem?
theorem vy:type_of%@List.mem_singleton:=@List.mem_singleton
theorem vd:type_of%@List.mem_append:=@List.mem_append
theorem wc:type_of%@List.length_cons:=@List.length_cons
theorem wy:type_of%@List.take_length:=@List.take_length
theorem wi:type_of%@Bool.eq_iff_iff:=@Bool.eq_iff_iff
theorem xK:type_of%@List.append_assoc:=@List.append_assoc
theorem zc:type_of%@List.take_of_length_le:=@List.take_of_length_le
theorem zR:type_of%@List.getElem?_append_left:=@List.getElem?_append_left
theorem yc:type_of%@List.getElem?_map:=@List.getElem?_map
theorem Q0:type_of%@List.getD_eq_getElem?_getD:=@List.getD_eq_getElem?_getD
theorem UR:type_of%@List.getElem?_append_right:=@List.getElem?_append_right
theorem xw:type_of%@List.map_cons:=@List.map_cons
theorem yC:type_of%@Option.some.inj:=@Option.some.inj
theorem yn:type_of%@List.append_nil:=@List.append_nil
theorem w9:type_of%@List.mem_map:=@List.mem_map
theorem zN:type_of%@Array.length_toList:=@Array.length_toList
theorem Uc:type_of%@List.length_singleton:=@List.length_singleton
theorem yT:type_of%@List.map_append:=@List.map_append
theorem V5:type_of%@List.eq_nil_of_length_eq_zero:=@List.eq_nil_of_length_eq_zero
theorem zK:type_of%@List.cons_append:=@List.cons_append
theorem xB:type_of%@Nat.mul_one:=@Nat.mul_one
theorem ye:type_of%@Nat.zero_add:=@Nat.zero_add
theorem zE:type_of%@List.nil_append:=@List.nil_append
theorem zZ:type_of%@List.length_take:=@List.length_take
theorem W4:type_of%@List.take_succ_eq_append_getElem:=@List.take_succ_eq_append_getElem
theorem Wt:type_of%@Array.getElem?_eq_getElem:=@Array.getElem?_eq_getElem
theorem Vm:type_of%@List.mem_cons_of_mem:=@List.mem_cons_of_mem
theorem yv:type_of%@Nat.zero_le:=@Nat.zero_le
theorem V3:type_of%@List.getElem?_cons_succ:=@List.getElem?_cons_succ
theorem VM:type_of%@List.getElem?_eq_none:=@List.getElem?_eq_none
theorem U9:type_of%@List.getElem_mem:=@List.getElem_mem
theorem Am:type_of%@List.take_zero:=@List.take_zero
theorem Xh:type_of%@List.take_append_of_le_length:=@List.take_append_of_le_length
theorem Vn:type_of%@List.all_eq_true:=@List.all_eq_true
theorem Vw:type_of%@List.nodup_append:=@List.nodup_append
theorem Vx:type_of%@List.flatMap_cons:=@List.flatMap_cons
theorem VN:type_of%@Bool.false_eq_true:=@Bool.false_eq_true
theorem Wu:type_of%@Nat.pow_le_pow_right:=@Nat.pow_le_pow_right
theorem WI:type_of%@List.take_append_drop:=@List.take_append_drop
theorem Xi:type_of%@List.drop_eq_getElem_cons:=@List.drop_eq_getElem_cons
theorem Vf:type_of%@List.drop_zero:=@List.drop_zero
theorem Vz:type_of%@Option.map_some:=@Option.map_some
theorem V4:type_of%@List.length_range:=@List.length_range
theorem Xu:type_of%@Int.tmod_eq_emod_of_nonneg:=@Int.tmod_eq_emod_of_nonneg
theorem VO:type_of%@Bool.and_eq_true:=@Bool.and_eq_true
theorem Wv:type_of%@List.take_add_one:=@List.take_add_one
theorem WJ:type_of%@List.ext_getElem?:=@List.ext_getElem?
theorem Wx:type_of%@List.not_mem_nil:=@List.not_mem_nil
theorem Xw:type_of%@Int.eq_ofNat_of_zero_le:=@Int.eq_ofNat_of_zero_le
theorem Xj:type_of%@Nat.mul_le_mul_right:=@Nat.mul_le_mul_right
theorem Va:type_of%@Int.le_refl:=@Int.le_refl
theorem Xk:type_of%@Bool.and_eq_true_iff:=@Bool.and_eq_true_iff
theorem XX:type_of%@Array.getElem?_eq_some_iff:=@Array.getElem?_eq_some_iff
theorem Xx:type_of%@List.length_replicate:=@List.length_replicate
theorem V8:type_of%@Nat.add_assoc:=@Nat.add_assoc
theorem VP:type_of%@Nat.sub_zero:=@Nat.sub_zero
theorem Xy:type_of%@List.drop_succ_cons:=@List.drop_succ_cons
theorem Xz:type_of%@List.getElem?_range:=@List.getElem?_range
theorem WT:type_of%@List.nodup_cons:=@List.nodup_cons
theorem W6:type_of%@List.length_drop:=@List.length_drop
theorem XY:type_of%@List.length_eq_zero_iff:=@List.length_eq_zero_iff
theorem XZ:type_of%@List.getElem?_cons_zero:=@List.getElem?_cons_zero
theorem Wy:type_of%@Bool.true_and:=@Bool.true_and
theorem XA:type_of%@List.mem_cons_self:=@List.mem_cons_self
theorem V9:type_of%@Nat.zero_mul:=@Nat.zero_mul
theorem X0:type_of%@List.getElem?_set_self:=@List.getElem?_set_self
theorem W7:type_of%@List.length_nil:=@List.length_nil
theorem W8:type_of%@Bool.or_eq_true:=@Bool.or_eq_true
theorem WU:type_of%@List.mem_range:=@List.mem_range
theorem XB:type_of%@List.size_toArray:=@List.size_toArray
theorem YJ:type_of%@Nat.testBit_two_pow_mul_add:=@Nat.testBit_two_pow_mul_add
theorem Wz:type_of%@Nat.le_trans:=@Nat.le_trans
theorem Wo:type_of%@Nat.add_mul:=@Nat.add_mul
theorem W5:type_of%@Bool.false_and:=@Bool.false_and
theorem YB:type_of%@Int.fdiv_eq_ediv_of_nonneg:=@Int.fdiv_eq_ediv_of_nonneg
theorem Ye:type_of%@List.drop_eq_nil_of_le:=@List.drop_eq_nil_of_le
theorem WL:type_of%@Nat.succ_mul:=@Nat.succ_mul
theorem XT:type_of%@List.flatMap_append:=@List.flatMap_append
theorem Ww:type_of%@Nat.one_mul:=@Nat.one_mul
theorem YC:type_of%@List.getElem?_take_of_lt:=@List.getElem?_take_of_lt
theorem V7:type_of%@Nat.mod_lt:=@Nat.mod_lt
theorem XI:type_of%@List.any_eq_true:=@List.any_eq_true
theorem Y8:type_of%@Array.getD_eq_getD_getElem?:=@Array.getD_eq_getD_getElem?
theorem XU:type_of%@Bool.eq_false_iff:=@Bool.eq_false_iff
theorem Y9:type_of%@Int.tdiv_eq_ediv_of_nonneg:=@Int.tdiv_eq_ediv_of_nonneg
theorem Yf:type_of%@List.append_toArray:=@List.append_toArray
theorem Yg:type_of%@List.length_pos_iff:=@List.length_pos_iff
theorem Yh:type_of%@List.take_succ_cons:=@List.take_succ_cons
theorem Za:type_of%@List.map_eq_singleton_iff:=@List.map_eq_singleton_iff
theorem YE:type_of%@Array.getElem?_modify:=@Array.getElem?_modify
theorem YF:type_of%@Nat.eq_of_beq_eq_true:=@Nat.eq_of_beq_eq_true
theorem YG:type_of%@Array.getElem?_toList:=@Array.getElem?_toList
theorem Yi:type_of%@Nat.eq_zero_or_pos:=@Nat.eq_zero_or_pos
theorem XV:type_of%@List.mem_flatMap:=@List.mem_flatMap
theorem XW:type_of%@List.drop_length:=@List.drop_length
theorem Xv:type_of%@List.all_cons:=@List.all_cons
theorem YH:type_of%@List.getElem?_modify:=@List.getElem?_modify
theorem XJ:type_of%@List.drop_drop:=@List.drop_drop
theorem YI:type_of%@List.mem_of_mem_take:=@List.mem_of_mem_take
theorem Zb:type_of%@List.filter_cons_of_pos:=@List.filter_cons_of_pos
theorem Yj:type_of%@List.getElem?_set:=@List.getElem?_set
theorem Zc:type_of%@Nat.add_sub_cancel_left:=@Nat.add_sub_cancel_left
theorem X1:type_of%@List.mem_filter:=@List.mem_filter
theorem X2:type_of%@Nat.min_eq_left:=@Nat.min_eq_left
theorem Zd:type_of%@Option.map_eq_some_iff:=@Option.map_eq_some_iff
theorem Yk:type_of%@Bool.not_eq_true:=@Bool.not_eq_true
theorem Yl:type_of%@List.getElem_map:=@List.getElem_map
theorem YK:type_of%@Bool.false_ne_true:=@Bool.false_ne_true
theorem Ze:type_of%@Nat.le_of_ble_eq_true:=@Nat.le_of_ble_eq_true
theorem Zf:type_of%@List.length_filter_le:=@List.length_filter_le
theorem Ym:type_of%@List.forIn_cons:=@List.forIn_cons
theorem Yn:type_of%@List.length_set:=@List.length_set
theorem Zg:type_of%@List.mem_append_left:=@List.mem_append_left
theorem XK:type_of%@Nat.add_comm:=@Nat.add_comm
theorem Zh:type_of%@List.getElem?_set_ne:=@List.getElem?_set_ne
theorem XL:type_of%@Nat.sub_self:=@Nat.sub_self
theorem Zi:type_of%@Nat.testBit_two_pow:=@Nat.testBit_two_pow
theorem Zj:type_of%@Array.toList_append:=@Array.toList_append
theorem Zk:type_of%@Nat.add_one_sub_one:=@Nat.add_one_sub_one
theorem YL:type_of%@List.prefix_refl:=@List.prefix_refl
theorem Yo:type_of%@Nat.mul_le_mul:=@Nat.mul_le_mul
theorem X3:type_of%@List.map_map:=@List.map_map
theorem YM:type_of%@List.range_succ:=@List.range_succ
theorem Yp:type_of%@Bool.or_false:=@Bool.or_false
theorem Yq:type_of%@Prod.mk.injEq:=@Prod.mk.injEq
abbrev PH:=Nat->Option Obj
namespace PH
def set (F:PH) (b:Nat) (o:Obj):PH:=λx=>if x=b then V o else F x
def cell (F:PH) (a:Addr):Option Value:=
 match F a.block with
 |some (Y c _ _)=>if a.spot.isSome then I else c[a.off]?
 |_=>I
def le (F G:PH):Prop:=∀b o,F b=V o->G b=V o
end PH
structure Ev where
 os:Os
 tape:Nat->Question->Nat
 output:Array (Nat×ByteArray)
 fr:PH
structure Sat (e:Ev) (w:World) (F:PH):Prop where
 os:w.os=e.os
 tape:w.tape=e.tape
 output:w.output=e.output
 heap:∀b o,F b=V o->w.heap[b]? =V o
 frame:∀b o,e.fr b=V o->F b=I/\w.heap[b]? =V o
def ak (v:Value):Prop:=(∀xs,v≠.agg xs)/\(∀xs,v≠.tuple xs)
def Yv (fr:Nat×Nat) (i:Nat):Bool:=fr.1<=i && i<fr.2
def jO:Obj->Option (TypeId×Nat)
 | Y c e _=>V (e,c.size)
 |_=>I
def uW (o:Obj) (i:Nat):Bool:=
 match o with
 | Y _ _ fr=>Yv fr i
 |_=>mz
def aG {α:Type} (P:Program):Sem α->PH->(α->PH->Prop)->Prop
 | .pure a,F,Q=>Q a F
 | .load _ a k,F,Q=>∃v,F.cell a=V v/\aG P (k v) F Q
 | .store _ a v k,F,Q=>ak v/\∃c e fr,F a.block=V (Y c e fr)/\a.spot=I/\a.off<c.size/\Yv fr a.off=mz/\
   aG P k (F.set a.block (Y (c.setIfInBounds a.off v) e fr)) Q
 | .new o k,F,Q=>∀b,F b=I->aG P (k b) (F.set b o) Q
 | .shape r k,F,Q=>∃o,F r=V o/\aG P (k (jO o)) F Q
 | .freeze a n k,F,Q=>if n=0 then aG P k F Q else ∃c e fr,F a.block=V (Y c e fr)/\
   aG P k (F.set a.block (Y c e (if fr.1==fr.2 then (a.off,a.off+n) else (min fr.1 a.off,max fr.2 (a.off+n))))) Q
 | .frozen a k,F,Q=>∃o,F a.block=V o/\aG P (k (uW o a.off)) F Q
 | .getObj r k,F,Q=>∃o,F r=V o/\(∀c e fr,o≠Y c e fr)/\aG P (k o) F Q
 | .setObj r o k,F,Q=>∃o',F r=V o'/\(∀c e fr,o'≠Y c e fr)/\aG P k (F.set r o) Q
 | .choose q k,F,Q=>if q.forced then aG P (k 0) F Q else ∀t,aG P (k (q.cut t)) F Q
 | .sys _ _,_,_=>False
 | .program k,F,Q=>aG P (k P) F Q
 | .mark _ k,F,Q=>aG P k F Q
 | .halt _,_,_=>False
section
variable {e:Ev} {w:World} {F:PH}
theorem Sat.cell (h:Sat e w F) {a:Addr} {v:Value} (g:F.cell a=V v):w.cell? a=V v:=by
 unfold PH.cell at g;unfold World.cell?;split at g
 ·rename_i c t A r;rw [h.heap _ _ r];exact g
 ·cases g
theorem Sat.lt (h:Sat e w F) {b:Nat} {o:Obj} (g:F b=V o):b<w.heap.size:=by have:=h.heap _ _ g;exact (XX.1 this).1
theorem Sat.fresh (h:Sat e w F):F w.heap.size=I:=by
 cases hb:F w.heap.size with
 |none=>rfl
 |some o=>exact absurd (h.lt hb) (by omega)
theorem Sat.push (h:Sat e w F) (o:Obj):Sat e {w with heap:=w.heap.push o} (F.set w.heap.size o):=by
 refine ⟨h.os,h.tape,h.output,λb A g=> ?_,λb A g=> ?_⟩
 ·unfold PH.set at g;split at g
  ·rename_i r;subst r;simpa using g
  ·rename_i r;have C:=h.heap _ _ g;have B:=h.lt g;show (w.heap.push o)[b]? =V A;rw [Array.getElem?_push,Υ (by omega)];exact C
 ·obtain ⟨C,B⟩:=h.frame b A g;have D:=(XX.1 B).1;refine ⟨?_,?_⟩
  ·unfold PH.set;rw [Υ (by omega)];exact C
  ·show (w.heap.push o)[b]? =V A;rw [Array.getElem?_push,Υ (by omega)];exact B
theorem Sat.modify (h:Sat e w F) {r:Nat} {o H:Obj} (J:F r=V H) (g:Array Obj) (K:g[r]? =V o) (E:∀b,b≠r->g[b]? =w.heap[b]?):
  Sat e {w with heap:=g} (F.set r o):=by
 refine ⟨h.os,h.tape,h.output,λb G B=> ?_,λb G B=> ?_⟩
 ·unfold PH.set at B;split at B
  ·rename_i A;subst A;exact K.trans B
  ·rename_i A;exact (E b A).trans (h.heap _ _ B)
 ·obtain ⟨D,L⟩:=h.frame b G B;have C:b≠r:=λe=>by rw [e,J] at D;cases D
  exact ⟨by unfold PH.set;rw [Υ C];exact D,(E b C).trans L⟩
theorem Sat.drawn (h:Sat e w F) (n:Nat):Sat e {w with drawn:=n} F:=⟨h.os,h.tape,h.output,h.heap,h.frame⟩
theorem Cy {α:Type} {P:Program} {e:Ev} (s:Sem α):∀(F:PH) (w:World) (Q:α->PH->Prop),aG P s F Q->Sat e w F->
  ∃a w' N,s.run P w=.ok a w'/\Sat e w' N/\Q a N:=by
 induction s with
 |pure a=>intro F w Q h A;exact ⟨a,w,F,rfl,A,h⟩
 |load m a k ih=>intro F w Q h A;obtain ⟨v,hc,h⟩:=h;simp only [Sem.run,A.cell hc];exact ih v F w Q h A
 |store m a v k ih=>
  intro F w Q h A;obtain ⟨⟨X,R⟩,c,t,O,B,J,D,K,h⟩:=h;have g:=A.heap _ _ B;have E:w.cell? a=V c[a.off]:=by simp [World.cell?,g,J,D]
  have L:w.frozen? a=mz:=by obtain ⟨lo,hi⟩:=O;simpa [World.frozen?,g,Yv] using K
  have H:(Sem.store m a v k).run P w=k.run P (w.setCell a v):=by cases v<;>first|exact absurd rfl (X _)|exact absurd rfl (R _)|simp [Sem.run,E,L]
  rw [H];refine ih _ _ Q h ?_;have:w.setCell a v={w with heap:=(w.setCell a v).heap}:=rfl;rw [this];refine A.modify B _ ?_ (λb C=> ?_)
  ·simp [World.setCell,YE,g,J]
  ·simp only [World.setCell,YE];rw [Υ (λh=>C h.symm)]
 |new o k ih=>intro F w Q h A;exact ih _ _ _ Q (h _ A.fresh) (A.push o)
 |shape r k ih=>
  intro F w Q h A;obtain ⟨o,B,h⟩:=h;have g:=A.heap _ _ B;have:w.shape? r=(jO o):=by unfold World.shape?;rw [g];cases o<;>simp [jO]
  simp only [Sem.run,this];exact ih _ F w Q h A
 |freeze a n k ih=>
  intro F w Q h A;simp only [Sem.run,World.freeze];unfold aG at h;split at h
  ·rename_i G;rw [Χ G];exact ih F w Q h A
  ·rename_i G;rw [Υ G];obtain ⟨c,t,O,B,h⟩:=h;have g:=A.heap _ _ B;refine ih _ _ Q h (A.modify B _ ?_ (λb C=> ?_))
   ·simp [YE,g]
   ·rw [YE,Υ (λh=>C h.symm)]
 |frozen a k ih=>
  intro F w Q h A;obtain ⟨o,B,h⟩:=h;have g:=A.heap _ _ B;have:w.frozen? a=(uW o a.off):=by unfold World.frozen?;rw [g];cases o<;>simp [uW,Yv]
  simp only [Sem.run,this];exact ih _ F w Q h A
 |getObj r k ih=>
  intro F w Q h A;obtain ⟨o,B,G,h⟩:=h;have g:=A.heap _ _ B;have:(Sem.getObj r k).run P w=(k o).run P w:=by cases o<;>first|exact absurd rfl (G _ _ _)|simp only [Sem.run,g]
  rw [this];exact ih _ F w Q h A
 |setObj r o k ih=>
  intro F w Q h A;obtain ⟨W,B,G,h⟩:=h;have g:=A.heap _ _ B;have D:=A.lt B;have:(Sem.setObj r o k).run P w=k.run P {w with heap:=w.heap.setIfInBounds r o}:=by cases W<;>first|exact absurd rfl (G _ _ _)|simp only [Sem.run,g]
  rw [this];refine ih _ _ Q h (A.modify B _ ?_ (λb C=> ?_))
  ·simp [D]
  ·rw [Array.getElem?_setIfInBounds_ne (λh=>C h.symm)]
 |choose q k ih=>
  intro F w Q h A;simp only [Sem.run];unfold aG at h;split
  ·rename_i M;rw [Χ M] at h;exact ih _ F w Q h A
  ·rename_i M;rw [Υ M] at h;exact ih _ F _ Q (h _) (A.drawn _)
 |sys c k ih=>intro F w Q h;exact h.elim
 |program k ih=>intro F w Q h A;exact ih _ F w Q h A
 |mark m k ih=>intro F w Q h A;exact ih F w Q h A
 |halt h=>intro F w Q h;exact h.elim
end
theorem uX {α g:Type} {P:Program} (s:Sem α) (f:α->Sem g):∀(F:PH) (Q:g->PH->Prop),
  aG P (s.bind f) F Q↔aG P s F (λa w=>aG P (f a) w Q):=by
 induction s with
 |pure a=>intro F Q;rfl
 |load m a k ih=>intro F Q;simp only [Sem.bind,aG,ih]
 |store m a v k ih=>intro F Q;simp only [Sem.bind,aG,ih]
 |new o k ih=>intro F Q;simp only [Sem.bind,aG,ih]
 |shape r k ih=>intro F Q;simp only [Sem.bind,aG,ih]
 |freeze a n k ih=>intro F Q;simp only [Sem.bind,aG,ih]
 |frozen a k ih=>intro F Q;simp only [Sem.bind,aG,ih]
 |getObj r k ih=>intro F Q;simp only [Sem.bind,aG,ih]
 |setObj r o k ih=>intro F Q;simp only [Sem.bind,aG,ih]
 |choose q k ih=>intro F Q;simp only [Sem.bind,aG,ih]
 |sys c k ih=>intro F Q;simp only [Sem.bind,aG]
 |program k ih=>intro F Q;simp only [Sem.bind,aG,ih]
 |mark m k ih=>intro F Q;simp only [Sem.bind,aG,ih]
 |halt h=>intro F Q;simp only [Sem.bind,aG]
theorem aD {α g:Type} {P:Program} (s:Sem α) (f:α->Sem g) (F:PH) (Q:g->PH->Prop):
  aG P (s>>=f) F Q↔aG P s F (λa h=>aG P (f a) h Q):=uX s f F Q
theorem dg {α:Type} {P:Program} (s:Sem α):∀(F:PH) {Q w:α->PH->Prop},aG P s F Q->(∀a F,Q a F->w a F)->aG P s F w:=by
 induction s with
 |pure a=>intro F Q w h g;exact g _ _ h
 |load m a k ih=>rintro F Q w ⟨v,A,h⟩ g;exact ⟨v,A,ih v F h g⟩
 |store m a v k ih=>rintro F Q w ⟨A,c,e,D,C,J,K,E,h⟩ g;exact ⟨A,c,e,D,C,J,K,E,ih _ h g⟩
 |new o k ih=>intro F Q w h g b G;exact ih _ _ (h b G) g
 |shape r k ih=>rintro F Q w ⟨o,A,h⟩ g;exact ⟨o,A,ih _ F h g⟩
 |freeze a n k ih=>
  intro F Q w h g;unfold aG at h ⊢;split at h
  ·rename_i B;rw [Χ B];exact ih F h g
  ·rename_i B;rw [Υ B];obtain ⟨c,e,D,A,h⟩:=h;exact ⟨c,e,D,A,ih _ h g⟩
 |frozen a k ih=>rintro F Q w ⟨o,A,h⟩ g;exact ⟨o,A,ih _ F h g⟩
 |getObj r k ih=>rintro F Q w ⟨o,A,C,h⟩ g;exact ⟨o,A,C,ih _ F h g⟩
 |setObj r o k ih=>rintro F Q w ⟨H,A,C,h⟩ g;exact ⟨H,A,C,ih _ h g⟩
 |choose q k ih=>
  intro F Q w h g;unfold aG at h ⊢;split at h
  ·rename_i B;rw [Χ B];exact ih _ F h g
  ·rename_i B;rw [Υ B];exact λt=>ih _ F (h t) g
 |sys c k ih=>intro F Q w h;exact h.elim
 |program k ih=>intro F Q w h g;exact ih _ F h g
 |mark m k ih=>intro F Q w h g;exact ih F h g
 |halt h=>intro F Q w h;exact h.elim
abbrev En:=Nat->Value
def upd (E:En) (d:Nat) (v:Value):En:=λt=>bif Nat.beq t d then v else E t
def cR (E:En):Option Tmp->Value->En
 |some d,v=>upd E d v
 |none,_=>E
def ev (E:En):Operand->Value
 | .tmp t=>E t
 | .const v=>v
 | .global g=> .pointer (V ⟨g,0,I⟩)
 | .func f=> .func (.func f) #[] #[]
def S9 (args:List Value):En:=λt=>args.getD t undef
def Cz (P:Program) (d:Deferred):Prop:=∃fv cap f args,d.target=.fn fv cap/\∀w,(invoke d.target d.args).run P w=.ok (.enter f args) w/\
 CallsD P f args .returning w λe u' w'=>(∃v,e=.returned v)/\u'=.returning/\w'=w
theorem jq {P:Program} {A:Func} {tmps:Array Value} {w:World} {v:Value} {R:Ending->World->Prop} (B:(results A tmps).run P w=.ok v w) (C:R (.returned v) w):
  ∀ds:List Deferred,(∀d∈ds,Cz P d)->Leaves P A tmps R ds .returning w
 |[],_=>⟨v,B,C⟩
 |d::ds,h=>by obtain ⟨D,cap,f,g,E,r⟩:=h d (by simp);refine ⟨by simp,D,cap,f,g,E,(r w).1,(r w).2.mono ?_⟩;rintro e G H ⟨⟨F,rfl⟩,rfl,rfl⟩;exact jq B C ds λd hd=>h d (Vm _ hd)
structure Ag (P:Program) (n:Nat) (a:Act) (E:En):Prop where
 size:a.tmps.size=n
 defers:∀d∈a.defers,Cz P d
 val:∀t,a.tmps.getD t undef=E t
theorem Ag.eval {P:Program} {n:Nat} {a:Act} {E:En} (h:Ag P n a E):a.eval=ev E:=by
 funext x;cases x with
 |tmp t=>exact h.val t
 |_=>rfl
def fq (n:Nat):Option Tmp->Bool
 |some d=>Nat.blt d n
 |none=>mY
theorem ln {i j:Nat} (h:¬i=j):Nat.beq i j=mz:=by
 cases hb:Nat.beq i j with
 |false=>rfl
 |true=>exact absurd (YF hb) h
theorem Ag.put {P:Program} {n:Nat} {a:Act} {E:En} (h:Ag P n a E) {d:Option Tmp} (v:Value) (hd:fq n d=mY):Ag P n (a.put d v) (cR E d v):=by
 cases d with
 |none=>exact h
 |some d=>
  have r:d<n:=by simpa [fq,Nat.blt_eq] using hd
  refine ⟨by simp [Act.put,h.size],h.defers,λt=> ?_⟩;simp only [Act.put,cR,upd];have w:=h.val t;by_cases g:t=d
  ·subst g;simp [h.size,r]
  ·have:Nat.beq t d=mz:=ln g;simp only [this,cond_false];rw [<- w];simp [Array.getElem?_setIfInBounds_ne (Ne.symm g)]
def QL (P:Program) (e:Ev) (n:Nat) (Q:Exit->En->PH->Prop):Exit->Act->World->Prop:=λx a w=>∃E F,Ag P n a E/\Sat e w F/\Q x E F
def aj (P:Program) (f:FuncId) (args:Array Value) (F:PH) (R:Value->PH->Prop):Prop:=
 ∀e w,Sat e w F->Calls P f args w λen w'=>∃v F',en=.returned v/\Sat e w' F'/\R v F'
def PH.and (F H:PH):PH:=λb=>match F b with|some o=>V o|none=>H b
theorem PH.and_left {F H:PH} {b:Nat} {o:Obj} (h:F b=V o):(F.and H) b=V o:=by simp [PH.and,h]
theorem PH.and_right {F H:PH} {b:Nat} (h:F b=I):(F.and H) b=H b:=by simp [PH.and,h]
theorem aj.beside {P:Program} {f:FuncId} {args:Array Value} {F H:PH} {R:Value->PH->Prop} (h:aj P f args F R) (hd:∀b o,H b=V o->F b=I):
  aj P f args (F.and H) λv F'=>∃G,R v G/\F'=G.and H/\∀b o,H b=V o->G b=I:=by
 intro e w B;have r:∀{F:PH} {b:Nat},(F.and H) b=I->F b=I/\H b=I:=λ{F b} g=>by
  unfold PH.and at g;split at g
  ·cases g
  ·rename_i E;exact ⟨E,g⟩
 refine (h ⟨e.os,e.tape,e.output,e.fr.and H⟩ w ⟨B.os,B.tape,B.output,λb o g=>B.heap b o (PH.and_left g),λb o g=> ?_⟩).mono ?_
 ·simp only [PH.and] at g;split at g
  ·rename_i A C;cases g;obtain ⟨L,N⟩:=B.frame b _ C;exact ⟨(r L).1,N⟩
  ·have M:=hd b o g;exact ⟨M,B.heap b o ((PH.and_right M).trans g)⟩
 ·rintro en w' ⟨v,G,rfl,D,W⟩;have J:∀b o,H b=V o->G b=I:=λb o g=>by
   have X:∃A,(e.fr.and H) b=V A:=by
    cases E:e.fr b with
    |none=>exact ⟨o,(PH.and_right E).trans g⟩
    |some A=>exact ⟨A,PH.and_left E⟩
   obtain ⟨A,C⟩:=X;exact (D.frame b A C).1
  refine ⟨v,_,rfl,⟨D.os,D.tape,D.output,λb o g=> ?_,λb o g=> ?_⟩,G,W,rfl,J⟩
  ·cases hG:G b with
   |some A=>rw [PH.and_left hG] at g;cases g;exact D.heap b _ hG
   |none=>
    rw [PH.and_right hG] at g;have K:e.fr b=I:=by
     cases E:e.fr b with
     |none=>rfl
     |some A=>have:=(r (B.frame b A E).1).2;rw [g] at this;cases this
    exact (D.frame b o ((PH.and_right K).trans g)).2
  ·obtain ⟨L,_⟩:=B.frame b o g;have h3:=(r L).2;obtain ⟨Q,O⟩:=D.frame b o (PH.and_left g);exact ⟨by rw [PH.and_right Q];exact h3,O⟩
theorem aj.mono {P:Program} {f:FuncId} {args:Array Value} {F:PH} {R r:Value->PH->Prop} (h:aj P f args F R) (B:∀v g,R v g->r v g):
  aj P f args F r:=λe w E=>(h e w E).mono λ_ _ ⟨v,g,C,A,D⟩=>⟨v,g,C,A,B v g D⟩
def HC (P:Program) (n:Nat) (c:Code) (Q:Exit->En->PH->Prop) (E:En) (F:PH):Prop:=
 ∀e a w,Ag P n a E->Sat e w F->c.wp P (QL P e n Q) a w
def HL (P:Program) (n:Nat) (ops:Array Oper) (Q:Exit->En->PH->Prop) (l:List Oper) (E:En) (F:PH):Prop:=
 ∀e a w,Ag P n a E->Sat e w F->wpList P ops (QL P e n Q) l a w
abbrev QM (K:En->PH->Prop) (Q:Exit->En->PH->Prop):Exit->En->PH->Prop
 | .normal,E,F=>K E F
 |x,E,F=>Q x E F
abbrev KN (id:Nat) (Q:Exit->En->PH->Prop):Exit->En->PH->Prop
 | .exit i,E,F=>bif Nat.beq i id then Q .normal E F else Q (.exit i) E F
 |x,E,F=>Q x E F
section
variable {P:Program} {n:Nat} {Q:Exit->En->PH->Prop} {E:En} {F:PH}
theorem NF (h:Q .normal E F):HC P n .skip Q E F:=λ_ _ _ g st=>wp_skip ⟨E,F,g,st,h⟩
theorem Ta (h:Q .ret E F):HC P n .ret Q E F:=λ_ _ _ g st=>wp_ret ⟨E,F,g,st,h⟩
theorem NG {g:Nat} (h:Q (.exit g) E F):HC P n (.exit g) Q E F:=λ_ _ _ r st=>wp_exit ⟨E,F,r,st,h⟩
theorem CA {x y:Code} (h:HC P n x (QM (HC P n y Q) Q) E F):HC P n (.seq x y) Q E F:=λe a w A st=>
 wp_seq (wp_mono (h e a w A st) λH C G ⟨D,B,g,r,q⟩=>by
  cases H with
  |normal=>exact q e C G g r
  |_=>exact ⟨D,B,g,r,q⟩)
theorem qH {c:Operand} {x y:Code} {t:Bool} (B:ev E c=.bool t) (A:t=mY->HC P n x Q E F) (r:t=mz->HC P n y Q E F):
  HC P n (.cond c x y) Q E F:=λe a w g st=>
 wp_cond_split (by rw [g.eval];exact B) (λh=>A h e a w g st) (λh=>r h e a w g st)
theorem KO {l:Nat} (h:Q .normal E F):HC P n (.label l) Q E F:=λ_ _ _ g st=>wp_label ⟨E,F,g,st,h⟩
def aaC (Q:Exit->En->PH->Prop):Exit->En->PH->Prop
 | .goto _,_,_=>False
 |x,E,F=>Q x E F
theorem KP {c:Code} (h:HC P n c (aaC Q) E F):HC P n (.scope c) Q E F:=λe a w A st=>
 wp_scope_straight (wp_mono (h e a w A st) λD G H ⟨C,B,g,r,q⟩=>by
  cases D with
  |goto l=>exact q.elim
  |_=>exact ⟨C,B,g,r,q⟩)
theorem KQ {A:Nat} {c:Code} (h:HC P n c (KN A Q) E F):HC P n (.block A c) Q E F:=λe a w D st=>
 wp_block (wp_mono (h e a w D st) λG H J ⟨C,B,g,r,q⟩=>by
  cases G with
  |exit i=>
   simp only [Exit.inBlock,KN] at q ⊢;by_cases hi:i=A
   ·subst hi;have:Nat.beq i i=mY:=by simp
    simp only [this,cond_true] at q;rw [Χ rfl];exact ⟨C,B,g,r,q⟩
   ·have:Nat.beq i A=mz:=ln hi;simp only [this,cond_false] at q;rw [Υ hi];exact ⟨C,B,g,r,q⟩
  |_=>exact ⟨C,B,g,r,q⟩)
theorem NH {c:Code} (M:Nat->En->PH->Prop) (m0:Nat) (h0:M m0 E F)
  (D:∀m E F,M m E F->HC P n c (QM (λR F'=>∃O,O<m/\M O R F') Q) E F):HC P n (.loop c) Q E F:=by
 intro e a w ag st b k cs;have key:∀m a w E F,Ag P n a E->Sat e w F->M m E F->
   ∃G L N,QL P e n Q G L N/\Arrives P (lone (b.at a (.code c::.inLoop c::k)) cs w) b k cs G L N:=by
  intro m;induction m using Nat.strongRecOn with
  |_ m ih=>
   intro a w E F ag st hI;obtain ⟨G,r,h,B,g⟩:=D m E F hI e a w ag st b (.inLoop c::k) cs;cases G with
   |normal=>obtain ⟨R,F',a1,W,O,a0,X⟩:=B;obtain ⟨J,K,H,C,A⟩:=ih O a0 r h R F' a1 W X;exact ⟨J,K,H,C,.of_steps (Steps.trans g (.one step_inLoop)) A⟩
   |exit id=>exact ⟨_,r,h,B,.pass (x:=.inLoop c) rfl (λ_ _=> .inl (by simp)) g⟩
   |goto l=>exact ⟨_,r,h,B,.pass (x:=.inLoop c) rfl (λ_ _=> .inl (by simp)) g⟩
   |ret=>exact ⟨_,r,h,B,.pass (x:=.inLoop c) rfl (λ_ _=> .inl (by simp)) g⟩
   |panic ch=>exact ⟨_,r,h,B,.pass (x:=.inLoop c) rfl (λ_ _=> .inl (by simp)) g⟩
   |outgrown=>exact ⟨_,r,h,B,.pass (x:=.inLoop c) rfl (λ_ _=> .inl (by simp)) g⟩
 obtain ⟨G,L,N,B,g⟩:=key m0 a w E F ag st h0;exact ⟨G,L,N,B,.of_steps (.one step_loop) g⟩
theorem GL {g:Nat} {l:List Oper} (h:HL P n l.toArray Q l E F):HC P n (.region g l.toArray mz) Q E F:=λe a w r st=>
 wp_region_lit (h e a w r st)
def bJ (P:Program) (K:En->PH->Prop) (o:Oper) (E:En):Next->PH->Prop
 | .value v,F=>K (cR E o.dst v) F
 | .skip,F=>K (cR E o.dst undef) F
 | .enter f args,F=>aj P f args F λv F'=>K (cR E o.dst v) F'
 | .defer d,F=>Cz P d/\K (cR E o.dst undef) F
 |_,_=>False
theorem QN {o:Oper} {e:Ev} {a:Act} {w:World} {K:En->PH->Prop} {G:Act->World->Prop} {X:Exit->Act->World->Prop} (r:Ag P n a E) (st:Sat e w F) (hd:fq n o.dst=mY)
  (C:∀a w E F,Ag P n a E->Sat e w F->K E F->G a w)
  (h:aG P (execOp (ev E) o) F (bJ P K o E)):o.wp P a w G X:=by
 obtain ⟨M,N,F',O,g,A⟩:=Cy _ F w _ h st;unfold Oper.wp;rw [r.eval,O];cases M with
 |value v=>exact C _ _ _ _ (r.put v hd) g A
 |skip=>exact C _ _ _ _ (r.put undef hd) g A
 |enter f H=>refine (A e N g).mono ?_;rintro _ W ⟨v,L,rfl,B,J⟩;exact C _ _ _ _ (r.put v hd) B J
 |defer d=>have D:Ag P n {a with defers:=d::a.defers} E:=⟨r.size,λR h=>(tD.1 h).elim (λe=>e▸A.1) (r.defers R),r.val⟩;exact C _ _ _ _ (D.put undef hd) g A.2
 |_=>exact A.elim
def yE (ops:Array Oper) (E:En) (j:Nat):Option Bool:=
 match (ops[j]?).bind (·.dst) with
 |some t=>(match E t with| .bool b=>V b|_=>I)
 |none=>I
theorem Ag.yE_eq {a:Act} (h:Ag P n a E) (ops:Array Oper) (j:Nat):yielded ops a.tmps j=yE ops E j:=by
 unfold yielded yE;cases (ops[j]?).bind (·.dst) with
 |none=>rfl
 |some t=>
  have g:=h.val t;simp only [Option.bind_some];rw [<- g,Y8];cases a.tmps[t]? with
  |none=>rfl
  |some v=>cases v<;>rfl
theorem Ag.wanted_eq {a:Act} (h:Ag P n a E) (ops:Array Oper) (o:Oper):Region.wanted o (yielded ops a.tmps)=Region.wanted o (yE ops E):=by
 unfold Region.wanted;cases o.guard with
 |none=>rfl
 |some g=>simp only [h.yE_eq]
theorem Tb {ops:Array Oper} (h:Q .normal E F):HL P n ops Q [] E F:=λ_ _ _ g st=>wpList_nil ⟨E,F,g,st,h⟩
theorem QO {ops:Array Oper} {o:Oper} {l:List Oper} (r:Region.wanted o (yE ops E)=mY) (hd:fq n o.dst=mY)
  (h:aG P (execOp (ev E) o) F (bJ P (HL P n ops Q l) o E)):HL P n ops Q (o::l) E F:=λe a w g st=>by
 unfold wpList;rw [g.wanted_eq,Χ r];exact .inl (QN g st hd (λa w E F g st A=>A e a w g st) h)
theorem NI {ops:Array Oper} {o:Oper} {l:List Oper} (r:Region.wanted o (yE ops E)=mz) (hd:fq n o.dst=mY)
  (h:HL P n ops Q l (cR E o.dst undef) F):HL P n ops Q (o::l) E F:=λe a w g st=>by
 unfold wpList;rw [g.wanted_eq,Υ (by simp [r])];exact h e _ _ (g.put undef hd) st
def oU (P:Program) (fn:Func) (E:En) (F:PH) (v:Value):Prop:=
 ∀e w tmps,Sat e w F->(∀t:Nat,Array.getD tmps t undef=E t)->(results fn tmps).run P w=.ok v w
abbrev NJ (P:Program) (fn:Func) (R:Value->PH->Prop):Exit->En->PH->Prop
 | .normal,E,F| .ret,E,F=>∃v,oU P fn E F v/\R v F
 |_,_,_=>False
theorem NK {f:FuncId} {A:Func} {c:Code} {args:List Value} {R:Value->PH->Prop} (M:P.funcs[f]? =V A) (K:A.body=V c)
  (J:A.ntmps=n) (O:Nat.ble args.length n=mY) (h:HC P n c (NJ P A R) (S9 args) F):aj P f args.toArray F R:=λe w st=>by
 have N:args.length<=n:=by simpa [Nat.ble_eq] using O
 refine calls_of_wp_defers M K ?_;refine wp_mono (h e _ w ⟨?_,λ_ h=>(by cases h),λt=> ?_⟩ st) ?_
 ·simp [J];omega
 ·simp only [S9,Y8,Q0,Array.getElem?_append,XB,Array.getElem?_replicate];by_cases H:t<args.length
  ·simp [H]
  ·simp only [H,if_false];rw [VM (by omega)];split<;>rfl
 ·rintro L W G ⟨X,D,g,r,q⟩;cases L with
  |normal=>obtain ⟨v,C,B⟩:=q;exact jq (C e G _ r g.val) ⟨v,D,rfl,r,B⟩ _ g.defers
  |ret=>obtain ⟨v,C,B⟩:=q;exact jq (C e G _ r g.val) ⟨v,D,rfl,r,B⟩ _ g.defers
  |_=>exact q.elim
end
section
variable {P:Program} {ops:Array Oper} {md:Region.Mode}
def Oper.waits (md:Region.Mode) (o:Oper) (r:Nat):Bool:=o.after.toList.any λe=>Region.binds md e && e.on==r
theorem CB {o:Oper} {r:Nat}:Oper.waits md o r=mz↔∀e∈o.after,Region.binds md e=mY->e.on≠r:=by
 unfold Oper.waits;rw [<- Yk,XI];constructor
 ·intro h x A B g;exact h ⟨x,by simpa using A,by simp [B,g]⟩
 ·rintro h ⟨x,A,w⟩;simp only [VO,beq_iff_eq] at w;exact h x (by simpa using A) w.1 w.2
abbrev cu:=List (Nat×(World->Prop))
def cu.hold (Sp:cu) (w:World):Prop:=∀r∈Sp,r.2 w
def cu.rest (md:Region.Mode) (o:Oper) (Sp:cu):cu:=Sp.filter λr=> !Oper.waits md o r.1
def iI (P:Program) (md:Region.Mode) (ops:Array Oper) (Q:Exit->Act->World->Prop):Nat->Array Bool->cu->Act->World->Prop
 |0,listed,_,a,w=>Region.ready md ops listed=[]/\Q .normal a w
 |fuel+1,listed,Sp,a,w=>
  (Region.ready md ops listed=[]->Q .normal a w)/\
  ∀i∈Region.ready md ops listed,∀o,ops[i]? =V o->
   wpOp P ops Q i (λa' w'=>(Sp.rest md o).hold w'/\iI P md ops Q fuel (listed.setIfInBounds i mY) (Sp.rest md o) a' w') a w
variable {Q:Exit->Act->World->Prop}
theorem tq:∀(fuel:Nat) (listed:Array Bool) (A:cu) (a:Act) (w:World),iI P md ops Q fuel listed A a w->wpAny P md ops Q fuel listed a w
 |0,_,_,_,_,h=>h
 |fuel+1,_,_,_,_,h=>⟨h.1,λi hi=>by
   obtain ⟨_,o,g,_⟩:=mem_ready.1 hi
   exact wpOp_mono (λr B C=>tq fuel _ _ r B C.2) (h.2 i hi o g)⟩
theorem cu.rest_sub {o:Oper} {A g:cu} (h:∀r∈g,r∈A):∀r∈cu.rest md o g,r∈cu.rest md o A:=by intro r w;unfold cu.rest at*;rw [X1] at*;exact ⟨h r w.1,w.2⟩
theorem tw:∀(fuel:Nat) (listed:Array Bool) (A g:cu) (a:Act) (w:World),(∀r∈g,r∈A)->iI P md ops Q fuel listed A a w->
  iI P md ops Q fuel listed g a w
 |0,_,_,_,_,_,_,h=>h
 |fuel+1,_,_,_,_,_,hs,h=>⟨h.1,λi hi o C=>wpOp_mono (λD E B=>⟨λr F=>B.1 r (cu.rest_sub hs r F),tw fuel _ _ _ D E (cu.rest_sub hs) B.2⟩) (h.2 i hi o C)⟩
theorem mX {S:World->Prop} {i:Nat} {R:Oper} {v:Value} (hi:ops[i]? =V R) (J:∀(j:Nat) (o:Oper) cs b,ops[j]? =V o->o.op≠.select cs b)
  (hQ:∀c a w,Q (.panic c) (a.put R.dst v) w->Q (.panic c) a w):
  ∀(fuel:Nat) (g:Array Bool) (Sp:cu) (a:Act) (w:World),
   (∀j O,ops[j]? =V O->j≠i->g.getD j mY=mz->(∀e∈O.after,Region.binds md e=mY->e.on≠i)->R.apart ops O=mY)->
   i∈Region.ready md ops g->YieldsIf P ops S R v a->S w->Sp.hold w->
   iI P md ops Q fuel (g.setIfInBounds i mY) ((i,S)::Sp) (a.put R.dst v) w->iI P md ops Q (fuel+1) g Sp a w:=by
 intro fuel;induction fuel with
 |zero=>
  intro g Sp a w _ W hy hS hh H;refine ⟨λh=>(by rw [h] at W;cases W),λj hj O E=> ?_⟩;by_cases B:j=i
  ·subst B;exact hy.wpOp hi hS ⟨λr A=>hh r (X1.1 A).1,H⟩
  ·have:=ready_mono hj B;rw [H.1] at this;cases this
 |succ fuel ih=>
  intro g Sp a w F W hy hS hh H;refine ⟨λh=>(by rw [h] at W;cases W),λj hj O E=> ?_⟩;by_cases B:j=i
  ·subst B;refine hy.wpOp hi hS ⟨λr A=>hh r (X1.1 A).1,?_⟩;exact tw (fuel+1) _ _ _ _ _ (λr A=>Vm _ (X1.1 A).1) H
  ·have L:=H.2 j (ready_mono hj B) O E;obtain ⟨M,D,K,a0⟩:=mem_ready.1 hj;obtain rfl:D=O:=by rw [E] at K;exact (yC K).symm
   have N:∀e∈D.after,Region.binds md e=mY->e.on≠i:=λe he hb a3=>by
    have L:=a0 e he hb;have h0:=(mem_ready.1 W).1;rw [a3] at L;rcases Nat.lt_or_ge i g.size with h'|h'
    ·simp [h'] at h0 L;rw [h0] at L;cases L
    ·simp [Array.getElem?_eq_none h'] at L
   have hw:Oper.waits md D i=mz:=CB.2 N;have X:cu.rest md D ((i,S)::Sp)=(i,S)::cu.rest md D Sp:=by unfold cu.rest;rw [Zb (by simp [hw])]
   rw [X] at L;have h2:=wpOp_putIf E (F j D E B M N) (λcs b=>J i R cs b hi) (λcs b=>J j D cs b E) hQ hy L;have G:∀k ok,ops[k]? =V ok->k≠i->(g.setIfInBounds j mY).getD k mY=mz->
     (∀e∈ok.after,Region.binds md e=mY->e.on≠i)->R.apart ops ok=mY:=λk ok hk a6 a1 a5=>by
    refine F k ok hk a6 ?_ a5;by_cases a2:j=k
    ·subst a2;exact M
    ·rw [getD_set_ne mY a2] at a1;exact a1
   refine wpOp_mono (λa' w' h3=> ?_) h2;obtain ⟨a4,C,h3⟩:=h3;refine ⟨λr A=>C r (Vm _ A),?_⟩;refine ih (g.setIfInBounds j mY) _ a' w' G (ready_mono W (Ne.symm B)) a4 (C _ (XA ..)) (λr A=>C r (Vm _ A)) ?_;rw [Array.setIfInBounds_comm _ _ B];exact h3
end
section
variable {P:Program} {n:Nat} {Q:Exit->En->PH->Prop} {E:En} {F:PH} {ops:Array Oper}
def CC (F:PH) (S:World->Prop):Prop:=∀e w,Sat e w F->S w
def fR (Sp:cu) (F:PH):Prop:=∀r∈Sp,CC F r.2
def RG (P:Program) (n:Nat) (ops:Array Oper) (Q:Exit->En->PH->Prop) (fuel:Nat) (listed:Array Bool) (Sp:cu) (E:En) (F:PH):Prop:=
 ∀e a w,Ag P n a E->Sat e w F->iI P .any ops (QL P e n Q) fuel listed Sp a w
theorem NL {g:Nat} (r:P.follows .mixedOrders=mY) (h:RG P n ops Q ops.size (Array.replicate ops.size mz) [] E F):
  HC P n (.region g ops mY) Q E F:=λe a _ A st=>
 wp_region_any r (tq _ _ _ _ _ (h e a _ A (st.drawn _)))
theorem NM {fuel:Nat} {listed:Array Bool} {A:cu} (g:Region.ready .any ops listed=[]) (h:Q .normal E F):RG P n ops Q fuel listed A E F:=
 λe a w r st=>by
  cases fuel with
  |zero=>exact ⟨g,E,F,r,st,h⟩
  |succ fuel=>exact ⟨λ_=>⟨E,F,r,st,h⟩,by rw [g];simp⟩
def QP (P:Program) (S:World->Prop) (E:En) (o:Oper) (v:Value):Prop:=∀w,S w->(execOp (ev E) o).run P w=.ok (.value v) w
theorem Ft {S:World->Prop} {i:Nat} {g:Oper} {v:Value} {fuel:Nat} {listed:Array Bool} {A:cu} (hi:ops[i]? =V g)
  (N:Region.noSelect ops=mY) (K:Region.free .any ops listed i=mY) (D:(Region.ready .any ops listed).contains i=mY) (hd:fq n g.dst=mY)
  (L:∀c E F,¬Q (.panic c) E F) (H:Region.wanted g (yE ops E)=mY) (J:QP P S E g v) (M:CC F S) (G:fR A F)
  (h:RG P n ops Q fuel (listed.setIfInBounds i mY) ((i,S)::A) (cR E g.dst v) F):RG P n ops Q (fuel+1) listed A E F:=λe a w B st=>
 mX hi (Region.noSelect_spec N) (λc a w ⟨E,F,_,_,q⟩=>(L c E F q).elim) fuel listed A a w (Region.free_spec hi K) (by simpa using D)
  (.inl ⟨by rw [B.wanted_eq];exact H,λw C=>by rw [B.eval];exact J w C⟩) (M e w st) (λr D=>G r D e w st) (h e _ w (B.put v hd) st)
theorem jr {Q:Exit->Act->World->Prop} {g:Region.Mode} (i:Nat):∀(fuel:Nat) (listed:Array Bool) (A:cu) (a:Act) (w:World),iI P g ops Q fuel listed A a w->
  iI P g ops Q fuel listed ((i,λ_=>True)::A) a w
 |0,_,_,_,_,h=>h
 |fuel+1,_,A,_,_,h=>⟨h.1,λj J o G=>wpOp_mono (λH K C=>by
   by_cases D:Oper.waits g o i=mY
   ·have:cu.rest g o ((i,λ_=>True)::A)=cu.rest g o A:=by unfold cu.rest;rw [List.filter_cons_of_neg (by simp [D])]
    rw [this];exact C
   ·have:cu.rest g o ((i,λ_=>True)::A)=(i,λ_=>True)::cu.rest g o A:=by unfold cu.rest;rw [Zb (by simpa using D)]
    rw [this];refine ⟨λr B=> ?_,jr i fuel _ _ H K C.2⟩;rcases tD.1 B with rfl|B
    ·trivial
    ·exact C.1 r B) (h.2 j J o G)⟩
theorem NN {i:Nat} {g:Oper} {v:Value} {fuel:Nat} {listed:Array Bool} {r:cu} (hi:ops[i]? =V g)
  (K:Region.noSelect ops=mY) (H:Region.free .any ops listed i=mY) (G:(Region.ready .any ops listed).contains i=mY) (hd:fq n g.dst=mY)
  (J:∀c E F,¬Q (.panic c) E F) (C:Region.wanted g (yE ops E)=mY) (D:QP P (λ_=>True) E g v) (A:fR r F)
  (h:RG P n ops Q fuel (listed.setIfInBounds i mY) r (cR E g.dst v) F):RG P n ops Q (fuel+1) listed r E F:=
 Ft (S:=λ_=>True) hi K H G hd J C D (λ_ _ _=>trivial) A λe a w B st=>jr i _ _ _ _ _ (h e a w B st)
theorem NO {i:Nat} {A:Oper} {fuel:Nat} {listed:Array Bool} {g:cu} (hi:ops[i]? =V A)
  (K:Region.noSelect ops=mY) (H:Region.free .any ops listed i=mY) (B:(Region.ready .any ops listed).contains i=mY) (hd:fq n A.dst=mY)
  (J:∀c E F,¬Q (.panic c) E F) (G:Region.wanted A (yE ops E)=mz) (D:fR g F)
  (h:RG P n ops Q fuel (listed.setIfInBounds i mY) g (cR E A.dst undef) F):RG P n ops Q (fuel+1) listed g E F:=λe a w C st=>
 mX (S:=λ_=>True) hi (Region.noSelect_spec K) (λc a w ⟨E,F,_,_,q⟩=>(J c E F q).elim) fuel listed g a w (Region.free_spec hi H) (by simpa using B)
  (.inr ⟨by rw [C.wanted_eq];exact G,rfl⟩) trivial (λr B=>D r B e w st) (jr i _ _ _ _ _ (h e _ w (C.put undef hd) st))
def aaD (P:Program) (n:Nat) (ops:Array Oper) (Q:Exit->En->PH->Prop) (fuel:Nat) (listed:Array Bool) (Sp:cu) (E:En) (F:PH) (i:Nat):Prop:=
 ∃o,ops[i]? =V o/\fq n o.dst=mY/\Region.wanted o (yE ops E)=mY/\
  aG P (execOp (ev E) o) F (bJ P (λE' F'=>fR (Sp.rest .any o) F'/\RG P n ops Q fuel (listed.setIfInBounds i mY) (Sp.rest .any o) E' F') o E)
theorem Tc {fuel:Nat} {listed:Array Bool} {K:cu} {G:List Nat} (D:Region.ready .any ops listed=G) (A:G.isEmpty=mz)
  (h:∀i∈G,aaD P n ops Q fuel listed K E F i):RG P n ops Q (fuel+1) listed K E F:=λe a w C st=>by
 subst D;refine ⟨λL=>(by rw [L] at A;cases A),λi hi o J=> ?_⟩;obtain ⟨N,g,hd,M,B⟩:=h i hi;obtain rfl:N=o:=by rw [J] at g;exact (yC g).symm
 unfold wpOp;simp only [J];rw [C.wanted_eq,Χ M];exact .inl (QN C st hd (λa w E F C st H=>⟨λr D=>H.1 r D e w st,H.2 e a w C st⟩) B)
end
def pn {α:Type} (P:Program):Sem α->PH->α->Prop
 | .pure a,_,v=>a=v
 | .load _ a k,F,v=>∃x,F.cell a=V x/\pn P (k x) F v
 | .shape r k,F,v=>∃o,F r=V o/\pn P (k (jO o)) F v
 | .frozen a k,F,v=>∃o,F a.block=V o/\pn P (k (uW o a.off)) F v
 | .getObj r k,F,v=>∃o,F r=V o/\(∀c e fr,o≠Y c e fr)/\pn P (k o) F v
 | .program k,F,v=>pn P (k P) F v
 | .mark _ k,F,v=>pn P k F v
 |_,_,_=>False
theorem qI {α:Type} {P:Program} {e:Ev} (s:Sem α):∀(F:PH) (w:World) (v:α),pn P s F v->Sat e w F->s.run P w=.ok v w:=by
 induction s with
 |pure a=>intro F w v h _;exact congrArg (λx=>Result.ok x w) h
 |load m a k ih=>rintro F w v ⟨x,D,h⟩ A;simp only [Sem.run,A.cell D];exact ih x F w v h A
 |shape r k ih=>
  rintro F w v ⟨o,B,h⟩ A;have g:=A.heap _ _ B;have:w.shape? r=jO o:=by unfold World.shape?;rw [g];cases o<;>simp [jO]
  simp only [Sem.run,this];exact ih _ F w v h A
 |frozen a k ih=>
  rintro F w v ⟨o,B,h⟩ A;have g:=A.heap _ _ B;have:w.frozen? a=uW o a.off:=by unfold World.frozen?;rw [g];cases o<;>simp [uW,Yv]
  simp only [Sem.run,this];exact ih _ F w v h A
 |getObj r k ih=>
  rintro F w v ⟨o,B,C,h⟩ A;have g:=A.heap _ _ B;have:(Sem.getObj r k).run P w=(k o).run P w:=by cases o<;>first|exact absurd rfl (C _ _ _)|simp only [Sem.run,g]
  rw [this];exact ih _ F w v h A
 |program k ih=>intro F w v h A;exact ih _ F w v h A
 |mark m k ih=>intro F w v h A;exact ih F w v h A
 |_=>intro F w v h;exact h.elim
theorem gW {α:Type} {P:Program} (s:Sem α):∀(F:PH) (v:α) (Q:α->PH->Prop),pn P s F v->Q v F->aG P s F Q:=by
 induction s with
 |pure a=>intro F v Q h g;cases h;exact g
 |load m a k ih=>rintro F v Q ⟨x,B,h⟩ g;exact ⟨x,B,ih x F v Q h g⟩
 |shape r k ih=>rintro F v Q ⟨o,w,h⟩ g;exact ⟨o,w,ih _ F v Q h g⟩
 |frozen a k ih=>rintro F v Q ⟨o,w,h⟩ g;exact ⟨o,w,ih _ F v Q h g⟩
 |getObj r k ih=>rintro F v Q ⟨o,w,A,h⟩ g;exact ⟨o,w,A,ih _ F v Q h g⟩
 |program k ih=>intro F v Q h g;exact ih _ F v Q h g
 |mark m k ih=>intro F v Q h g;exact ih F v Q h g
 |_=>intro F v Q h;exact h.elim
theorem am {α C:Type} {P:Program} (s:Sem α) (f:α->Sem C):∀(F:PH) (v:C),pn P (s>>=f) F v↔∃a,pn P s F a/\pn P (f a) F v:=by
 show ∀(F:PH) (v:C),pn P (s.bind f) F v↔_;induction s with
 |pure a=>intro F v;simp only [Sem.bind,pn];exact ⟨λh=>⟨a,rfl,h⟩,by rintro ⟨_,rfl,h⟩;exact h⟩
 |load m a k ih=>intro F v;simp only [Sem.bind,pn,ih];exact ⟨λ⟨x,A,a,w,g⟩=>⟨a,⟨x,A,w⟩,g⟩,λ⟨a,⟨x,A,w⟩,g⟩=>⟨x,A,a,w,g⟩⟩
 |shape r k ih=>intro F v;simp only [Sem.bind,pn,ih];exact ⟨λ⟨x,A,a,w,g⟩=>⟨a,⟨x,A,w⟩,g⟩,λ⟨a,⟨x,A,w⟩,g⟩=>⟨x,A,a,w,g⟩⟩
 |frozen a k ih=>intro F v;simp only [Sem.bind,pn,ih];exact ⟨λ⟨x,A,a,w,g⟩=>⟨a,⟨x,A,w⟩,g⟩,λ⟨a,⟨x,A,w⟩,g⟩=>⟨x,A,a,w,g⟩⟩
 |getObj r k ih=>intro F v;simp only [Sem.bind,pn,ih];exact ⟨λ⟨x,A,B,a,w,g⟩=>⟨a,⟨x,A,B,w⟩,g⟩,λ⟨a,⟨x,A,B,w⟩,g⟩=>⟨x,A,B,a,w,g⟩⟩
 |program k ih=>intro F v;simp only [Sem.bind,pn,ih]
 |mark m k ih=>intro F v;simp only [Sem.bind,pn,ih]
 |_=>intro F v;simp [Sem.bind,pn]
@[simp] theorem cJ {α:Type} {P:Program} (a v:α) (F:PH):pn P (pure a:Sem α) F v↔a=v:=Iff.rfl
@[simp] theorem aL {α:Type} {P:Program} (a:α) (F:PH) (Q:α->PH->Prop):aG P (pure a:Sem α) F Q↔Q a F:=Iff.rfl
@[simp] theorem NP {α g:Type} {P:Program} (f:α->g) (s:Sem α) (F:PH) (v:g):pn P (Functor.map f s) F v↔∃a,pn P s F a/\f a=v:=am s (λa=>pure (f a)) F v
@[simp] theorem qiv {α g:Type} {P:Program} (f:α->g) (s:Sem α) (F:PH) (Q:g->PH->Prop):aG P (Functor.map f s) F Q↔aG P s F (λa h=>Q (f a) h):=uX s (λa=>pure (f a)) F Q
def vA (P:Program) (t:TypeId):Option (Nat×Nat):=(P.info? t).map λi=>(i.size,i.bytes)
def bu (P:Program) (t:TypeId):Option Value:=(P.info? t).bind (·.zero)
theorem tA {P:Program} {t s b:Nat} (h:vA P t=V (s,b)):∃i,P.info? t=V i/\i.size=s/\i.bytes=b:=by
 unfold vA at h;cases hi:P.info? t with
 |none=>simp [hi] at h
 |some i=>simp [hi] at h;exact ⟨i,rfl,h.1,h.2⟩
theorem tB {P:Program} {t:Nat} {z:Value} (h:bu P t=V z):∃i,P.info? t=V i/\i.zero=V z:=by
 unfold bu at h;cases hi:P.info? t with
 |none=>simp [hi] at h
 |some i=>simp [hi] at h;exact ⟨i,rfl,h⟩
section
variable {P:Program} {F:PH}
theorem bq {t s b:Nat} (h:vA P t=V (s,b)) (v:Nat):pn P (sizeOf t) F v↔s=v:=by
 obtain ⟨i,w,g,C⟩:=tA h;unfold sizeOf typeInfo program;simp only [am];constructor
 ·rintro ⟨B,⟨p,r,h⟩,A⟩;simp only [pn] at r;subst r;rw [w] at h;simp only [cJ] at h A;subst h;rw [<- g];exact A
 ·rintro rfl;refine ⟨i,⟨P,rfl,?_⟩,?_⟩
  ·rw [w];rfl
  ·rw [<- g];rfl
theorem fc {t s b:Nat} (h:vA P t=V (s,b)) (Q:Nat->PH->Prop):aG P (sizeOf t) F Q↔Q s F:=by obtain ⟨i,g,r,w⟩:=tA h;unfold sizeOf typeInfo program;simp only [aD,aG,g,aL,r]
theorem ft {t s b:Nat} (h:vA P t=V (s,b)):∃i:TypeInfo,i.bytes=b/\∀(F:PH) (Q:TypeInfo->PH->Prop),aG P (typeInfo t) F Q↔Q i F:=by obtain ⟨i,r,w,g⟩:=tA h;refine ⟨i,g,λF Q=> ?_⟩;unfold typeInfo program;simp only [aD,aG,r,aL]
theorem az {t:Nat} {d:TypeDesc} (h:P.underlying t=V d) (v:TypeDesc):pn P (underlying t) F v↔d=v:=by
 unfold underlying program;simp only [am];constructor
 ·rintro ⟨p,g,r⟩;simp only [pn] at g;subst g;rw [h] at r;exact r
 ·rintro rfl;exact ⟨P,rfl,by rw [h];rfl⟩
theorem bX {t:Nat} {d:TypeDesc} (h:P.underlying t=V d) (Q:TypeDesc->PH->Prop):aG P (underlying t) F Q↔Q d F:=by unfold underlying program;simp only [aD,aG,h,aL]
theorem eg {t:Nat} {z:Value} (h:bu P t=V z) (Q:Value->PH->Prop):aG P (zeroValue t) F Q↔Q z F:=by obtain ⟨i,g,r⟩:=tB h;unfold zeroValue typeInfo program;simp only [aD,aG,g,aL,r]
theorem gD {t:Nat} {z:Value} (h:bu P t=V z) (v:Value):pn P (zeroValue t) F v↔z=v:=by
 obtain ⟨i,w,g⟩:=tB h;unfold zeroValue typeInfo program;simp only [am];constructor
 ·rintro ⟨B,⟨p,r,h⟩,A⟩;simp only [pn] at r;subst r;rw [w] at h;simp only [cJ] at h;subst h;rw [g] at A;exact A
 ·rintro rfl;exact ⟨i,⟨P,rfl,by rw [w];rfl⟩,by rw [g];rfl⟩
def RD (P:Program) (E:En) (F:PH) (o:Oper) (v:Value):Prop:=pn P (execOp (ev E) o) F (.value v)
variable {n:Nat} {Q:Exit->En->PH->Prop} {E:En} {ops:Array Oper} {o:Oper} {l:List Oper}
theorem qfP {v:Value} (h:RD P E F o v) (K:HL P n ops Q l (cR E o.dst v) F) (g:Region.wanted o (yE ops E)=mY:=by rfl) (hd:fq n o.dst=mY:=by rfl):
  HL P n ops Q (o::l) E F:=QO g hd (gW _ _ _ _ h K)
theorem qfQ {i:Nat} {g:Oper} {v:Value} {fuel:Nat} {listed:Array Bool} {r:cu} (hi:ops[i]? =V g)
  (J:Region.noSelect ops=mY) (G:Region.free .any ops listed i=mY) (D:(Region.ready .any ops listed).contains i=mY) (hd:fq n g.dst=mY)
  (H:∀c E F,¬Q (.panic c) E F) (B:Region.wanted g (yE ops E)=mY) (C:RD P E F g v) (A:fR r F)
  (h:RG P n ops Q fuel (listed.setIfInBounds i mY) ((i,λw=>∃e F,Sat e w F/\RD P E F g v)::r) (cR E g.dst v) F):RG P n ops Q (fuel+1) listed r E F:=
 Ft hi J G D hd H B (λ_ ⟨_,_,st,h⟩=>qI _ _ _ _ h st) (λe _ st=>⟨e,F,st,C⟩) A h
theorem qfR {i:Nat} {g:Oper} {v:Value} {fuel:Nat} {listed:Array Bool} {r:cu} (hi:ops[i]? =V g)
  (J:Region.noSelect ops=mY) (G:Region.free .any ops listed i=mY) (D:(Region.ready .any ops listed).contains i=mY) (hd:fq n g.dst=mY)
  (H:∀c E F,¬Q (.panic c) E F) (B:Region.wanted g (yE ops E)=mY) (C:∀F,RD P E F g v) (A:fR r F)
  (h:RG P n ops Q fuel (listed.setIfInBounds i mY) r (cR E g.dst v) F):RG P n ops Q (fuel+1) listed r E F:=
 NN hi J G D hd H B (λw _=>by
  have st:Sat ⟨w.os,w.tape,w.output,λ_=>I⟩ w (λ_=>I):=⟨rfl,rfl,rfl,λb o h=>(by cases h),λb o h=>(by cases h)⟩
  exact qI _ _ _ _ (C _) st) A h
theorem Fu {v:Value} (h:RD P E F o v):CC F (λw=>∃e F,Sat e w F/\RD P E F o v):=λe _ st=>⟨e,F,st,h⟩
end
structure Sl where
 qa5:Option Addr
 len:Nat
 cap:Nat
def Sl.v (s:Sl):Value:=.slice s.qa5 s.len s.cap
def Sl.nil:Sl:=⟨I,0,0⟩
theorem aJ {x:Int} (g: -9223372036854775808<=x) (h:x<=9223372036854775807:=by omega):IntKind.i64.wrap x=x:=by
 have e:IntKind.i64.wrap x=if x % 18446744073709551616≥9223372036854775808 then x % 18446744073709551616 - 18446744073709551616 else x % 18446744073709551616:=by unfold IntKind.wrap;simp [IntKind.bits,IntKind.signed]
 rw [e];split<;>omega
section
variable {P:Program} {F:PH} {E:En} {o:Oper}
theorem Td {x:Operand} {v:Value} (g:o.op=.move x) (h:ev E x=v):RD P E F o v:=by simp only [RD,execOp,g,cJ,h]
theorem KR {x:Operand} {v:Value} (g:o.op=.assign x) (h:ev E x=v):RD P E F o v:=by simp only [RD,execOp,g,cJ,h]
theorem xJ {c a b:Operand} {t:Bool} {v:Value} (h:o.op=.pick c a b) (g:ev E c=.bool t) (r:t=mY->ev E a=v) (w:t=mz->ev E b=v):RD P E F o v:=by
 cases t
 ·simp [RD,execOp,h,g,asBool,w]
 ·simp [RD,execOp,h,g,asBool,r]
abbrev qiu:=Value->PH->Prop
abbrev Xg {α:Type} (z0:Nat->α->PH->Prop) (m:Nat):α->PH->Prop:=λa F=>∃m',m'<m/\z0 m' a F
abbrev VL {α β:Type} (z0:Nat->α->β->PH->Prop) (m:Nat):α->β->PH->Prop:=λa b F=>∃m',m'<m/\z0 m' a b F
abbrev Zx {α β γ:Type} (z0:Nat->α->β->γ->PH->Prop) (m:Nat):α->β->γ->PH->Prop:=λa b c F=>∃m',m'<m/\z0 m' a b c F
theorem aaV {c a b:Operand} {v:Value} (r:o.op=.pick c a b) (g:ev E c=.bool mz) (w:ev E b=v:=by rfl):RD P E F o v:=xJ r g (λh=>by cases h) (λ_=>w)
theorem aaW {c a b:Operand} {v:Value} (r:o.op=.pick c a b) (g:ev E c=.bool mY) (w:ev E a=v:=by rfl):RD P E F o v:=xJ r g (λ_=>w) (λh=>by cases h)
theorem CD {x:Operand} {a:Addr} (g:o.op=.nilCheck x) (h:ev E x=.pointer (V a)):RD P E F o (.pointer (V a)):=by simp [RD,execOp,g,h]
theorem qip {x:Operand} {f:FuncId} {a b:Array Value} (g:o.op=.nilCheck x) (h:ev E x=.func (.func f) a b):RD P E F o (.func (.func f) a b):=by simp [RD,execOp,g,h]
theorem uY {x:Operand} {vs:Array Value} {i:Nat} {v:Value} (g:o.op=.extract x i) (h:ev E x=.tuple vs) (hi:vs[i]? =V v):RD P E F o v:=by simp [RD,execOp,g,h,Instr.extract,hi]
theorem CE {g:Fn} {first captured:Array Operand} {a b:Array Value} (h:o.op=.makeFunc g first captured) (r:first.map (ev E)=a) (w:captured.map (ev E)=b):
  RD P E F o (.func g a b):=by
 simp [RD,execOp,h,r,w,Instr.makeFunc]
section
variable {x y:Operand} {t t':TypeId} {k:IntKind} {a b:Int}
theorem qfS (g:o.op=.binOp .add t x y t') (h:ev E x=.int k a) (r:ev E y=.int k b):RD P E F o (.int k (k.wrap (a+b))):=by simp [RD,execOp,g,h,r,binOp,eqGuard,Op.intArith]
theorem qfT (g:o.op=.binOp .sub t x y t') (h:ev E x=.int k a) (r:ev E y=.int k b):RD P E F o (.int k (k.wrap (a - b))):=by simp [RD,execOp,g,h,r,binOp,eqGuard,Op.intArith]
theorem qfU (g:o.op=.binOp .mul t x y t') (h:ev E x=.int k a) (r:ev E y=.int k b):RD P E F o (.int k (k.wrap (a*b))):=by simp [RD,execOp,g,h,r,binOp,eqGuard,Op.intArith]
theorem QQ (r:o.op=.binOp .quo t x y t') (g:ev E x=.int k a) (w:ev E y=.int k b) (h:b≠0):RD P E F o (.int k (k.wrap (a.tdiv b))):=by simp [RD,execOp,r,g,w,binOp,eqGuard,Op.intDiv,h]
theorem QR (r:o.op=.binOp .rem t x y t') (g:ev E x=.int k a) (w:ev E y=.int k b) (h:b≠0):RD P E F o (.int k (a.tmod b)):=by simp [RD,execOp,r,g,w,binOp,eqGuard,Op.intDiv,h]
theorem qfV (g:o.op=.binOp .and t x y t') (h:ev E x=.int k a) (r:ev E y=.int k b):RD P E F o (.int k (k.wrap ((BitVec.ofInt k.bits a &&& BitVec.ofInt k.bits b).toNat))):=by simp [RD,execOp,g,h,r,binOp,eqGuard,Op.intBits]
theorem aaE (g:o.op=.binOp .or t x y t') (h:ev E x=.int k a) (r:ev E y=.int k b):RD P E F o (.int k (k.wrap ((BitVec.ofInt k.bits a ||| BitVec.ofInt k.bits b).toNat))):=by simp [RD,execOp,g,h,r,binOp,eqGuard,Op.intBits]
theorem qfW (g:o.op=.binOp .xor t x y t') (h:ev E x=.int k a) (r:ev E y=.int k b):RD P E F o (.int k (k.wrap ((BitVec.ofInt k.bits a ^^^ BitVec.ofInt k.bits b).toNat))):=by simp [RD,execOp,g,h,r,binOp,eqGuard,Op.intBits]
theorem KU (g:o.op=.binOp .andNot t x y t') (h:ev E x=.int k a) (r:ev E y=.int k b):RD P E F o (.int k (k.wrap ((BitVec.ofInt k.bits a &&& ~~~ BitVec.ofInt k.bits b).toNat))):=by simp [RD,execOp,g,h,r,binOp,eqGuard,Op.intBits]
theorem qfX (g:o.op=.binOp .lss t x y t') (h:ev E x=.int k a) (r:ev E y=.int k b):RD P E F o (.bool (decide (a<b))):=by simp [RD,execOp,g,h,r,binOp,eqGuard,Op.intCmp]
theorem qfY (g:o.op=.binOp .leq t x y t') (h:ev E x=.int k a) (r:ev E y=.int k b):RD P E F o (.bool (decide (a<=b))):=by simp [RD,execOp,g,h,r,binOp,eqGuard,Op.intCmp]
theorem qfZ (g:o.op=.binOp .gtr t x y t') (h:ev E x=.int k a) (r:ev E y=.int k b):RD P E F o (.bool (decide (b<a))):=by simp [RD,execOp,g,h,r,binOp,eqGuard,Op.intCmp]
theorem qf0 (g:o.op=.binOp .geq t x y t') (h:ev E x=.int k a) (r:ev E y=.int k b):RD P E F o (.bool (decide (b<=a))):=by simp [RD,execOp,g,h,r,binOp,eqGuard,Op.intCmp]
theorem qf1 (g:o.op=.binOp .eql t x y t') (h:ev E x=.int k a) (r:ev E y=.int k b):RD P E F o (.bool (a==b)):=by simp [RD,execOp,g,h,r,binOp,eqGuard,Op.intCmp]
theorem qf3 (g:o.op=.binOp .neq t x y t') (h:ev E x=.int k a) (r:ev E y=.int k b):RD P E F o (.bool (a !=b)):=by simp [RD,execOp,g,h,r,binOp,eqGuard,Op.intCmp]
theorem QS {k':IntKind} (r:o.op=.binOp .shl t x y t') (g:ev E x=.int k a) (w:ev E y=.int k' b) (h:0<=b):RD P E F o (.int k (k.wrap (a*2 ^ (min b.toNat k.bits)))):=by simp [RD,execOp,r,g,w,binOp,eqGuard,Op.shift,Int.not_lt.2 h]
theorem QT {k':IntKind} (r:o.op=.binOp .shr t x y t') (g:ev E x=.int k a) (w:ev E y=.int k' b) (h:0<=b):RD P E F o (.int k (a.fdiv (2 ^ (min b.toNat k.bits)))):=by simp [RD,execOp,r,g,w,binOp,eqGuard,Op.shift,Int.not_lt.2 h]
theorem qf4 (g:o.op=.unOp .neg t x) (h:ev E x=.int k a):RD P E F o (.int k (k.wrap (0 - a))):=by simp [RD,execOp,g,h,Op.unary,Op.intArith]
theorem KV {c:Bool} (g:o.op=.unOp .not t x) (h:ev E x=.bool c):RD P E F o (.bool !c):=by simp [RD,execOp,g,h,Op.unary]
theorem GM {k':IntKind} {d:TypeDesc} (g:o.op=.convert t t' x) (w:ev E x=.int k a) (h:P.underlying t=V d) (r:P.underlying t'=V (.int k')):RD P E F o (.int k' (k'.wrap a)):=by simp [RD,execOp,g,w,convert,am,az h,az r,Conv.intToInt]
theorem uZ {m:Nat} {c d:Bool} (g:P.underlying t=V .bool):pn P (Op.equalIn (m+1) t (.bool c) (.bool d)) F (c==d):=by simp only [Op.equalIn,am];exact ⟨_,(az g _).2 rfl,rfl⟩
theorem u0 {m:Nat} {p:Option Addr} {e':TypeId} (g:P.underlying t=V (.pointer e')):pn P (Op.equalIn (m+1) t (.pointer p) (.pointer I)) F p.isNone:=by simp only [Op.equalIn,am];refine ⟨_,(az g _).2 rfl,?_⟩;cases p<;>rfl
theorem bj {op:BinOp} {v u:Value} (h:(match v,u with| .nilIface,.nilIface=>mz| .agg _,.agg _=>mz|_,_=>mY)=mY):pn P (eqGuard op t x y v u) F ():=by unfold eqGuard;cases op<;>simp<;>(split<;>first|(simp at h;done)|rfl)
theorem jP {v u:Value} {r:Bool} (h:o.op=.binOp .eql t x y t') (B:ev E x=v) (w:ev E y=u) (C:pn P (eqGuard .eql t x y v u) F ()) (g:pn P (Op.equal t v u) F r)
  (A:binOp .eql t v u=(do pure (.bool (<- Op.equal t v u)))):RD P E F o (.bool r):=by
 simp only [RD,execOp,h,B,w,am];refine ⟨.bool r,⟨(),C,?_⟩,rfl⟩;rw [A,am];exact ⟨r,g,rfl⟩
theorem jQ {v u:Value} {r:Bool} (h:o.op=.binOp .neq t x y t') (B:ev E x=v) (w:ev E y=u) (C:pn P (eqGuard .neq t x y v u) F ()) (g:pn P (Op.equal t v u) F r)
  (A:binOp .neq t v u=(do pure (.bool (!(<- Op.equal t v u))))):RD P E F o (.bool (!r)):=by
 simp only [RD,execOp,h,B,w,am];refine ⟨.bool (!r),⟨(),C,?_⟩,rfl⟩;rw [A,am];exact ⟨r,g,rfl⟩
theorem Te {c d:Bool} (g:o.op=.binOp .eql t x y t') (r:ev E x=.bool c) (w:ev E y=.bool d) (h:P.underlying t=V .bool):RD P E F o (.bool (c==d)):=
 jP g r w (bj rfl) (uZ h) rfl
theorem Tf {c d:Bool} (g:o.op=.binOp .neq t x y t') (r:ev E x=.bool c) (w:ev E y=.bool d) (h:P.underlying t=V .bool):RD P E F o (.bool (!(c==d))):=
 jQ g r w (bj rfl) (uZ h) rfl
theorem z6 {p:Option Addr} {e':TypeId} (g:o.op=.binOp .eql t x y t') (r:ev E x=.pointer p) (w:ev E y=.pointer I) (h:P.underlying t=V (.pointer e')):RD P E F o (.bool p.isNone):=
 jP g r w (bj rfl) (u0 h) rfl
theorem z8 {p:Option Addr} {e':TypeId} (g:o.op=.binOp .neq t x y t') (r:ev E x=.pointer p) (w:ev E y=.pointer I) (h:P.underlying t=V (.pointer e')):RD P E F o (.bool (!p.isNone)):=
 jQ g r w (bj rfl) (u0 h) rfl
theorem tC {m:Nat} {s:Sl} {e':TypeId} (g:P.underlying t=V (.slice e')):pn P (Op.equalIn (m+1) t s.v (.slice I 0 0)) F s.qa5.isNone:=by simp only [Op.equalIn,am];refine ⟨_,(az g _).2 rfl,?_⟩;obtain ⟨b,l,c⟩:=s;cases b<;>rfl
theorem CF {s:Sl} {e':TypeId} (g:o.op=.binOp .eql t x y t') (r:ev E x=s.v) (w:ev E y=.slice I 0 0) (h:P.underlying t=V (.slice e')):RD P E F o (.bool s.qa5.isNone):=
 jP g r w (bj rfl) (tC h) rfl
theorem CG {s:Sl} {e':TypeId} (g:o.op=.binOp .neq t x y t') (r:ev E x=s.v) (w:ev E y=.slice I 0 0) (h:P.underlying t=V (.slice e')):RD P E F o (.bool (!s.qa5.isNone)):=
 jQ g r w (bj rfl) (tC h) rfl
theorem Th {c d:ByteArray} (g:o.op=.binOp .eql t x y t') (h:ev E x=.string c) (r:ev E y=.string d):RD P E F o (.bool (c.toList==d.toList)):=by simp [RD,execOp,g,h,r,binOp,eqGuard,Op.stringOp]
theorem Ti {c d:ByteArray} (g:o.op=.binOp .neq t x y t') (h:ev E x=.string c) (r:ev E y=.string d):RD P E F o (.bool (!(c.toList==d.toList))):=by simp [RD,execOp,g,h,r,binOp,eqGuard,Op.stringOp]
end
section
variable {x y:Operand} {t t':TypeId} {k:IntKind} {a b:Int}
theorem NQ {s:Sl} {e':TypeId} (g:o.op=.call {callee:=.builtin .len,args:= #[x],argTypes:= #[t]}) (r:ev E x=s.v) (h:P.underlying t=V (.slice e')):RD P E F o (.int .i64 s.len):=by simp [RD,execOp,g,resolve,invoke,builtin,r,Sl.v,Builtin.len_,am,az h,goInt]
theorem NR {s:Sl} {e':TypeId} (g:o.op=.call {callee:=.builtin .cap,args:= #[x],argTypes:= #[t]}) (r:ev E x=s.v) (h:P.underlying t=V (.slice e')):RD P E F o (.int .i64 s.cap):=by simp [RD,execOp,g,resolve,invoke,builtin,r,Sl.v,Builtin.cap_,am,az h,goInt]
theorem KW {s:ByteArray} (g:o.op=.call {callee:=.builtin .len,args:= #[x],argTypes:= #[t]}) (r:ev E x=.string s) (h:P.underlying t=V .string):RD P E F o (.int .i64 s.size):=by simp [RD,execOp,g,resolve,invoke,builtin,r,Builtin.len_,am,az h,goInt]
theorem Tj {g:Array TypeId} (h:o.op=.call {callee:=.builtin .max,args:= #[x,y],argTypes:=g}) (r:ev E x=.int k a) (w:ev E y=.int k b):RD P E F o (.int k (max a b)):=by
 have:(if b>a then b else a)=max a b:=by omega
 simp [RD,execOp,h,resolve,invoke,builtin,r,w,Builtin.max_,Builtin.max2];omega
theorem Tm {g:Array TypeId} (h:o.op=.call {callee:=.builtin .min,args:= #[x,y],argTypes:=g}) (r:ev E x=.int k a) (w:ev E y=.int k b):RD P E F o (.int k (min a b)):=by simp [RD,execOp,h,resolve,invoke,builtin,r,w,Builtin.min_,Builtin.min2];omega
theorem Tn {g:Array TypeId} {z:Operand} {c:Int} (h:o.op=.call {callee:=.builtin .max,args:= #[x,y,z],argTypes:=g}) (A:ev E x=.int k a) (r:ev E y=.int k b) (w:ev E z=.int k c):RD P E F o (.int k (max (max a b) c)):=by simp [RD,execOp,h,resolve,invoke,builtin,A,r,w,Builtin.max_,Builtin.max2];omega
theorem To {g:Array TypeId} {z:Operand} {c:Int} (h:o.op=.call {callee:=.builtin .min,args:= #[x,y,z],argTypes:=g}) (A:ev E x=.int k a) (r:ev E y=.int k b) (w:ev E z=.int k c):RD P E F o (.int k (min (min a b) c)):=by simp [RD,execOp,h,resolve,invoke,builtin,A,r,w,Builtin.min_,Builtin.min2];omega
end
def lq (d:TypeDesc):Bool:=match d with| .struct _| .array _ _=>mY|_=>mz
theorem dr {t:Nat} {d:TypeDesc} (h:P.underlying t=V d) (v:Bool):pn P (isAgg t) F v↔lq d=v:=by unfold isAgg;simp only [am,az h,exists_eq_left'];cases d<;>simp [lq]
def PH.row (F:PH) (a:Addr) (cs:Array Value):Prop:=∀i,(h:i<cs.size)->F.cell (a.add i)=V cs[i]
theorem qg5 {a:Addr}:∀(n i:Nat) (g cs:Array Value),cs.size=i+n->g.toList=cs.toList.take i->F.row a cs->pn P (loadCellsFrom a i n g) F cs:=by
 intro n;induction n with
 |zero=>intro i g cs w h _;show g=cs;apply Array.ext';rw [h,zc];simp only [zN];omega
 |succ n ih=>
  intro i g cs w h r;have hi:i<cs.size:=by omega
  simp only [loadCellsFrom,am];refine ⟨cs[i],⟨_,r i hi,rfl⟩,?_⟩;refine ih (i+1) _ cs (by omega) ?_ r;rw [Array.toList_push,h,W4 (by simpa using hi)];simp
theorem eT {a:Addr} {cs:Array Value} (g:F.row a cs):pn P (loadCells a cs.size) F cs:=
 qg5 cs.size 0 #[] cs (by omega) (by simp) g
theorem NS {x:Operand} {t:TypeId} {d:TypeDesc} {a:Addr} {v:Value} (h:o.op=.load t x) (A:ev E x=.pointer (V a)) (r:P.underlying t=V d) (g:lq d=mz) (w:F.cell a=V v):
  RD P E F o v:=by
 simp [RD,execOp,h,A,Instr.loadAt,Instr.sureAddr,loadVar,am,dr r,g,load,pn,w]
theorem NT {x:Operand} {t:TypeId} {d:TypeDesc} {a:Addr} {cs:Array Value} {b:Nat} (h:o.op=.load t x) (B:ev E x=.pointer (V a)) (w:P.underlying t=V d) (g:lq d=mY)
  (A:vA P t=V (cs.size,b)) (r:F.row a cs):RD P E F o (.agg cs):=by
 have:=eT (P:=P) r;simp [RD,execOp,h,B,Instr.loadAt,Instr.sureAddr,loadVar,am,dr w,g,bq A,this]
theorem qhq {a:Addr} {f:Field} {s b:Nat} (h:vA P f.type=V (s,b)) (g:s≠0) (v:Addr):pn P (fieldPlace a f) F v↔a.add f.offset=v:=by simp [fieldPlace,am,bq h,g]
theorem qih {x:Operand} {t i:Nat} {a:Addr} {fs:Array Field} {f:Field} {s b:Nat} (h:o.op=.fieldAddr t x i) (r:ev E x=.pointer (V a)) (w:P.underlying t=V (.struct fs))
  (g:fs[i]? =V f) (A:vA P f.type=V (s,b)) (B:s≠0):RD P E F o (.pointer (V (a.add f.offset))):=by
 simp [RD,execOp,h,r,Instr.fieldAt,Instr.sureAddr,am,az w,g,qhq A B]
theorem u6 {t off:Nat} {d:TypeDesc} {cs:Array Value} {v:Value} (h:P.underlying t=V d) (r:lq d=mz) (g:cs[off]? =V v):pn P (part t cs off) F v:=by simp [part,am,dr h,r,g]
theorem GN {t off s b:Nat} {d:TypeDesc} {cs:Array Value} (h:P.underlying t=V d) (r:lq d=mY) (g:vA P t=V (s,b)):pn P (part t cs off) F (.agg (cs.extract off (off+s))):=by simp [part,am,dr h,r,bq g]
theorem KX {x:Operand} {t i:Nat} {cs:Array Value} {fs:Array Field} {f:Field} {d:TypeDesc} {v:Value} (h:o.op=.field t x i) (r:ev E x=.agg cs) (w:P.underlying t=V (.struct fs))
  (g:fs[i]? =V f) (A:P.underlying f.type=V d) (C:lq d=mz) (B:cs[f.offset]? =V v):RD P E F o v:=by
 simp only [RD,execOp,h,r,Instr.field,am,az w,asAgg,cJ];exact ⟨v,⟨_,rfl,by simp only [g,am,cJ,exists_eq_left'];exact u6 A C B⟩,rfl⟩
theorem KY {x:Operand} {t i s b:Nat} {cs:Array Value} {fs:Array Field} {f:Field} {d:TypeDesc} (h:o.op=.field t x i) (w:ev E x=.agg cs) (A:P.underlying t=V (.struct fs))
  (g:fs[i]? =V f) (B:P.underlying f.type=V d) (C:lq d=mY) (r:vA P f.type=V (s,b)):RD P E F o (.agg (cs.extract f.offset (f.offset+s))):=by
 simp only [RD,execOp,h,w,Instr.field,am,az A,asAgg,cJ];exact ⟨_,⟨_,rfl,by simp only [g,am,cJ,exists_eq_left'];exact GN B C r⟩,rfl⟩
theorem qhx {x y:Operand} {t e' s b:Nat} {qa5:Addr} {len cap:Nat} {k:IntKind} {i:Int} (h:o.op=.indexAddr t x y) (w:ev E x=.slice (V qa5) len cap) (r:ev E y=.int k i)
  (A:P.underlying t=V (.slice e')) (g:vA P e'=V (s,b)) (B:0<=i) (C:i<len):RD P E F o (.pointer (V (qa5.add (i.toNat*s)))):=by
 simp [RD,execOp,h,w,r,Instr.indexAt,asIntOf,am,az A,B,C,bq g]
theorem qhy {x y:Operand} {t e' s b n:Nat} {qa5:Addr} {k:IntKind} {i:Int} (h:o.op=.indexAddr t x y) (w:ev E x=.pointer (V qa5)) (r:ev E y=.int k i)
  (A:P.underlying t=V (.array n e')) (g:vA P e'=V (s,b)) (B:0<=i) (C:i<n):RD P E F o (.pointer (V (qa5.add (i.toNat*s)))):=by
 simp [RD,execOp,h,w,r,Instr.indexAt,asIntOf,am,az A,B,C,bq g,Instr.sureAddr]
theorem CH {x y:Operand} {t:Nat} {st:ByteArray} {k:IntKind} {i:Int} (h:o.op=.index t x y) (w:ev E x=.string st) (r:ev E y=.int k i)
  (A:P.underlying t=V .string) (B:0<=i) (C:i<st.size):RD P E F o (.int .u8 (st[i.toNat]'(by omega)).toNat):=by
 have g:i.toNat<st.size:=by omega
 have:st[i.toNat]? =V (st[i.toNat]' g):=getElem?_pos st i.toNat g;simp [RD,execOp,h,w,r,Instr.index,asIntOf,am,az A,B,this]
theorem Aa {x y:Operand} {t e' n s b:Nat} {cs:Array Value} {k:IntKind} {i:Int} {d:TypeDesc} {v:Value} (w:o.op=.index t x y) (G:ev E x=.agg cs) (A:ev E y=.int k i)
  (B:P.underlying t=V (.array n e')) (r:vA P e'=V (s,b)) (hd:P.underlying e'=V d) (g:lq d=mz) (C:0<=i) (h:i<n) (D:cs[i.toNat*s]? =V v):RD P E F o v:=by
 simp only [RD,execOp,w,G,A,Instr.index,asIntOf,am,az B,cJ];refine ⟨v,⟨(k,i),rfl,.array n e',rfl,?_⟩,rfl⟩;simp only [C,h,and_self,if_true,am,bq r];exact ⟨_,rfl,u6 hd g D⟩
theorem cw {k:IntKind} {i:Int} {y:Nat} {c:BoundsCode} (g:0<=i) (h:i<=y) (v:Nat):pn P (Instr.sliceBound (.int k i) y c) F v↔i.toNat=v:=by simp [Instr.sliceBound,asIntOf,g,h]
def dt (v:Option Value) (dflt:Nat) (r:Nat):Prop:=(v=I/\r=dflt)\/∃k i,v=V (.int k i)/\0<=i/\i.toNat=r
theorem eL {sl:Bool} {len cap:Nat} {lo hi:Option Value} {l h:Nat} (C:dt hi len h) (D:dt lo 0 l) (H:l<=h) (G:h<=cap) (v:Nat×Nat×Nat):
  pn P (Instr.sliceBounds sl len cap lo hi I) F v↔(l,h,cap)=v:=by
 rcases C with ⟨rfl,rfl⟩|⟨k,i,rfl,r,rfl⟩<;>rcases D with ⟨rfl,rfl⟩|⟨B,j,rfl,g,rfl⟩
 ·simp [Instr.sliceBounds]
 ·have w:∀c x,pn P (Instr.sliceBound (.int B j) h c) F x↔j.toNat=x:=λc x=>cw g (by omega) x;cases sl<;>simp [Instr.sliceBounds,w]
 ·have A:∀c x,pn P (Instr.sliceBound (.int k i) cap c) F x↔i.toNat=x:=λc x=>cw r (by omega) x;cases sl<;>simp [Instr.sliceBounds,A]
 ·have A:∀c x,pn P (Instr.sliceBound (.int k i) cap c) F x↔i.toNat=x:=λc x=>cw r (by omega) x;have w:∀c x,pn P (Instr.sliceBound (.int B j) i.toNat c) F x↔j.toNat=x:=λc x=>cw g (by omega) x;cases sl<;>simp [Instr.sliceBounds,am,A,w]
theorem qhc {sl:Bool} {len cap:Nat} {lo:Option Value} {k k':IntKind} {i m:Int} {l:Nat} (C:dt lo 0 l) (B:0<=i) (h:0<=m) (J:l<=i.toNat) (H:i<=m) (D:m<=cap) (v:Nat×Nat×Nat):
  pn P (Instr.sliceBounds sl len cap lo (V (.int k i)) (V (.int k' m))) F v↔(l,i.toNat,m.toNat)=v:=by
 have A:∀c x,pn P (Instr.sliceBound (.int k' m) cap c) F x↔m.toNat=x:=λc x=>cw h D x;have w:∀c x,pn P (Instr.sliceBound (.int k i) m.toNat c) F x↔i.toNat=x:=λc x=>cw B (by omega) x;rcases C with ⟨rfl,rfl⟩|⟨r,j,rfl,g,rfl⟩
 ·cases sl<;>simp [Instr.sliceBounds,am,A,w]
 ·have G:∀c x,pn P (Instr.sliceBound (.int r j) i.toNat c) F x↔j.toNat=x:=λc x=>cw g (by omega) x;cases sl<;>simp [Instr.sliceBounds,am,A,w,G]
def Sl.cut (s:Sl) (size l h m:Nat):Sl:=⟨if m=l then s.qa5 else s.qa5.map (·.add (l*size)),h - l,m - l⟩
theorem GO {x:Operand} {lo hi:Option Operand} {t e' size b:Nat} {s:Sl} {l h:Nat} (A:o.op=.slice t x lo hi I) (B:ev E x=s.v) (C:P.underlying t=V (.slice e')) (w:vA P e'=V (size,b))
  (G:dt (lo.map (ev E)) 0 l) (g:dt (hi.map (ev E)) s.len h) (D:l<=h) (r:h<=s.cap):RD P E F o (s.cut size l h s.cap).v:=by
 have:=eL (P:=P) (F:=F) (sl:=mY) g G D r;simp [RD,execOp,A,B,Instr.sliceAt,Instr.slice,Sl.v,Sl.cut,am,az C,bq w,this]
theorem CI {x hi r:Operand} {lo:Option Operand} {t e' size b:Nat} {s:Sl} {l:Nat} {k k':IntKind} {i m:Int} (G:o.op=.slice t x lo (V hi) (V r)) (L:ev E x=s.v) (J:P.underlying t=V (.slice e')) (A:vA P e'=V (size,b))
  (H:dt (lo.map (ev E)) 0 l) (h:ev E hi=.int k i) (B:ev E r=.int k' m) (C:0<=i) (g:0<=m) (K:l<=i.toNat) (w:i<=m) (D:m<=s.cap):RD P E F o (s.cut size l i.toNat m.toNat).v:=by
 have:=qhc (P:=P) (F:=F) (sl:=mY) (len:=s.len) (k:=k) (k':=k') H C g K w D;simp [RD,execOp,G,L,Instr.sliceAt,Instr.slice,Sl.v,Sl.cut,am,az J,bq A,h,B,this]
theorem u7 {x:Operand} {lo hi:Option Operand} {t e' size b n:Nat} {a:Addr} {l h:Nat} (w:o.op=.slice t x lo hi I) (B:ev E x=.pointer (V a)) (C:P.underlying t=V (.array n e')) (r:vA P e'=V (size,b))
  (A:dt (lo.map (ev E)) 0 l) (g:dt (hi.map (ev E)) n h) (D:l<=h) (G:h<=n):RD P E F o (Sl.cut ⟨V a,n,n⟩ size l h n).v:=by
 have:=eL (P:=P) (F:=F) (sl:=mz) g A D G;simp [RD,execOp,w,B,Instr.sliceAt,Instr.sureAddr,Sl.v,Sl.cut,am,az C,bq r,this];split<;>rfl
theorem CJ {x:Operand} {lo hi:Option Operand} {t:Nat} {s:ByteArray} {l h:Nat} (w:o.op=.slice t x lo hi I) (A:ev E x=.string s) (B:P.underlying t=V .string)
  (D:dt (lo.map (ev E)) 0 l) (g:dt (hi.map (ev E)) s.size h) (C:l<=h) (r:h<=s.size):RD P E F o (.string (s.extract l h)):=by
 have:=eL (P:=P) (F:=F) (sl:=mz) g D C r;simp [RD,execOp,w,A,Instr.sliceAt,Instr.slice,am,az B,this]
end
section
variable {P:Program} {F:PH} {E:En} {o:Oper} {K:En->PH->Prop}
def mZ (P:Program) (fs:Array Field):Array (Nat×Nat):=fs.map λf=>(f.offset,P.cellsOf f.type)
def js (P:Program) (fs:Array Field):Bool:=fs.all λf=>(P.info? f.type).isSome
theorem Ab {t:Nat} (h:(P.info? t).isSome=mY):pn P (sizeOf t) F (P.cellsOf t):=by
 cases hi:P.info? t with
 |none=>simp [hi] at h
 |some i=>
  have:vA P t=V (i.size,i.bytes):=by simp [vA,hi]
  rw [bq this];simp [Program.cellsOf,hi]
theorem kG {α r:Type} (f:α->Sem r) (g:α->r):∀(l:List α),(∀x∈l,pn P (f x) F (g x))->pn P (l.mapM f) F (l.map g)
 |[],_=>by simp
 |x::l,h=>by have w:=h x (XA ..);have A:=kG f g l λy B=>h y (Vm _ B);simp only [List.mapM_cons,am,xw];exact ⟨_,w,_,A,rfl⟩
theorem CL {fs:Array Field} (h:js P fs=mY):pn P (fs.mapM λf=>do pure (f.offset,<- sizeOf f.type)) F (mZ P fs):=by
 have g:∀f∈fs.toList,(P.info? f.type).isSome=mY:=by intro f r;have:=Array.all_eq_true_iff_forall_mem.1 h f (by simpa using r);exact this
 rw [Array.mapM_eq_mapM_toList];have:=kG (P:=P) (F:=F) (λf:Field=>(do pure (f.offset,<- sizeOf f.type):Sem (Nat×Nat))) (λf=>(f.offset,P.cellsOf f.type)) fs.toList
  (λf r=>by simp only [am];exact ⟨_,Ab (g f r),rfl⟩)
 refine (NP _ _ _ _).2 ⟨_,this,?_⟩;apply Array.ext';simp [mZ]
theorem qhz {t:Nat} {g:Array (Nat×Operand)} {fs:Array Field} {z:Value} {vs:List (Nat×Value)} {cells:Array Value} (r:o.op=.build t g) (A:P.underlying t=V (.struct fs)) (w:bu P t=V z)
  (h:js P fs=mY) (C:(g.map λ(i,x)=>(i,ev E x)).toList=vs) (B:Instr.fill (λi=>(mZ P fs)[i]?) z.cells vs=V cells):RD P E F o (.agg cells):=by
 simp only [RD,execOp,r,am,Instr.build,cJ];refine ⟨_,⟨_,(gD w _).2 rfl,_,(az A _).2 rfl,?_⟩,rfl⟩;simp only [am];refine ⟨_,by have:=CL (P:=P) (F:=F) h;simpa [am] using this,?_⟩;rw [C,B];rfl
theorem qhW {t n e' s b:Nat} {g:Array (Nat×Operand)} {z:Value} {vs:List (Nat×Value)} {cells:Array Value} (r:o.op=.build t g) (A:P.underlying t=V (.array n e')) (w:bu P t=V z)
  (h:vA P e'=V (s,b)) (C:(g.map λ(i,x)=>(i,ev E x)).toList=vs) (B:Instr.fill (λi=>V (i*s,s)) z.cells vs=V cells):RD P E F o (.agg cells):=by
 simp only [RD,execOp,r,am,Instr.build,cJ];refine ⟨_,⟨_,(gD w _).2 rfl,_,(az A _).2 rfl,?_⟩,rfl⟩;simp only [am,bq h,exists_eq_left'];rw [C,B];rfl
theorem NU {t:Nat} {z:Value} (r:o.op=.alloc t) (g:bu P t=V z) (h:∀b,F b=I->K (cR E o.dst (.pointer (V ⟨b,0,I⟩))) (F.set b (Y z.cells t))):
  aG P (execOp (ev E) o) F (bJ P K o E):=by
 simp only [execOp,r,Instr.alloc,aD,eg g,aL,bJ,newVar,newRow,newObj];exact h
theorem KZ {t:Nat} {x:Operand} {v:Value} (g:o.op=.box t x) (r:ev E x=v) (h:∀b,F b=I->K (cR E o.dst (.pointer (V ⟨b,0,I⟩))) (F.set b (Y v.cells t))):
  aG P (execOp (ev E) o) F (bJ P K o E):=by
 simp only [execOp,g,Instr.box,aD,aL,bJ,newVar,newRow,newObj,r];exact h
theorem iJ {t e' s b n:Nat} {g:Array (Nat×Operand)} {z:Value} {vs:List (Nat×Value)} {cells:Array Value} (G:o.op=.buildSlice t n g) (J:P.underlying t=V (.slice e')) (D:vA P e'=V (s,b))
  (L:n*s<=16777216) (H:bu P e'=V z) (B:(g.map λ(i,x)=>(i,ev E x)).toList=vs) (A:Instr.fill (λi=>V (i*s,s)) (Builtin.zeroCells z.cells n) vs=V cells) (C:n*s=n*z.cells.size)
  (h:∀b,F b=I->K (cR E o.dst (.slice (V ⟨b,0,I⟩) n n)) (F.set b (Y cells e'))):
  aG P (execOp (ev E) o) F (bJ P K o E):=by
 simp only [execOp,G,Instr.buildSlice,aD,bX J,fc D];rw [Υ (by omega)];by_cases w:n*s=0
 ·have r:(Array.range (n*s)).map (λi=>(#[]:Array Value)[i % (#[]:Array Value).size]!)=Builtin.zeroCells z.cells n:=by simp [Builtin.zeroCells,w,<- C]
  rw [Χ w];simp only [aD,aL];rw [r,B,A];simp only [aD,aL,newRow,newObj,bJ];exact h
 ·have r:(Array.range (n*s)).map (λi=>z.cells[i % z.cells.size]!)=Builtin.zeroCells z.cells n:=by simp [Builtin.zeroCells,C]
  rw [Υ w];simp only [aD,eg H,aL];rw [r,B,A];simp only [aD,aL,newRow,newObj,bJ];exact h
def wr (c:Array Value) (off:Nat):List Value->Array Value
 |[]=>c
 |v::vs=>wr (c.setIfInBounds off v) (off+1) vs
theorem dK (vs:List Value):∀(c:Array Value) (off:Nat),(wr c off vs).size=c.size:=by
 induction vs with
 |nil=>intro c off;rfl
 |cons v vs ih=>intro c off;simp [wr,ih]
theorem xL (vs:List Value):∀(c:Array Value) (off i:Nat),off+vs.length<=c.size->(wr c off vs)[i]? =if off<=i/\i<off+vs.length then vs[i - off]? else c[i]? :=by
 induction vs with
 |nil=>intro c off i _;simp [wr];omega
 |cons v vs ih=>
  intro c off i h;simp only [wc] at h;rw [wr,ih _ _ _ (by simp;omega),Array.getElem?_setIfInBounds];by_cases g:off=i
  ·subst g;rw [Υ (by omega),Χ rfl,Χ (by omega),Χ (by simp)];simp
  ·by_cases r:off+1<=i/\i<off+1+vs.length
   ·rw [Χ r,Χ (by simp;omega)];rw [show i - off=(i - (off+1))+1 by omega,V3]
   ·rw [Υ r,Υ g,Υ (by simp;omega)]
theorem set_set (F:PH) (b:Nat) (o o':Obj):(F.set b o).set b o'=F.set b o':=by funext x;unfold PH.set;split<;>rfl
theorem NW (F:PH) (b:Nat) (o:Obj):(F.set b o) b=V o:=by simp [PH.set]
theorem CM (F:PH) {b x:Nat} (o:Obj) (h:x≠b):(F.set b o) x=F x:=by simp [PH.set,h]
theorem fk {e':TypeId}:∀(vs:List Value) (i:Nat) (F:PH) (a:Addr) (c:Array Value) (Q:Unit->PH->Prop),a.spot=I->F a.block=V (Y c e' (0,0))->a.off+i+vs.length<=c.size->
  (∀v∈vs,ak v)->vs≠[]->Q () (F.set a.block (Y (wr c (a.off+i) vs) e'))->aG P (storeCells a vs i) F Q:=by
 intro vs;induction vs with
 |nil=>intro i F a c Q _ _ _ _ h;exact absurd rfl h
 |cons v vs ih=>
  intro i F a c Q B G D A _ C;simp only [wc] at D;have r:(a.add i).off=a.off+i:=by unfold nR;split<;>simp_all
  have g:(a.add i).block=a.block:=by unfold nR;split<;>rfl
  have w:(a.add i).spot=I:=by unfold nR;split<;>simp_all
  simp only [storeCells,aD,store,aG];refine ⟨A v (XA ..),c,e',(0,0),by rw [g];exact G,w,by rw [r];omega,by simp [Yv],?_⟩;rw [g,r];cases vs with
  |nil=>exact C
  |cons u us=>refine ih (i+1) _ a (c.setIfInBounds (a.off+i) v) Q B (NW _ _ _) (by simp;simp at D;omega) (λx H=>A x (Vm _ H)) (by simp) ?_;rw [set_set];exact C
theorem K9 {t:Nat} {x y:Operand} {a:Addr} {v:Value} {c:Array Value} {e' s b:Nat} (A:o.op=.store t x y) (C:ev E x=.pointer (V a)) (B:ev E y=v) (w:vA P t=V (s,b)) (G:v.cells= #[v]) (H:s=1) (r:ak v)
  (g:a.spot=I) (D:F a.block=V (Y c e' (0,0))) (J:a.off<c.size) (h:K (cR E o.dst undef) (F.set a.block (Y (c.setIfInBounds a.off v) e'))):
  aG P (execOp (ev E) o) F (bJ P K o E):=by
 subst H;simp only [execOp,A,C,B,Instr.storeAt,Instr.sureAddr,aD,aL,storeVar,fc w,G];simp only [XB,wc,W7,ne_eq,ye,not_true_eq_false,if_false];refine fk [v] 0 F a c _ g D (by simp;omega) (by simpa using r) (by simp) ?_;exact h
theorem La {t:Nat} {x y:Operand} {a:Addr} {vs c:Array Value} {e' s b:Nat} (B:o.op=.store t x y) (G:ev E x=.pointer (V a)) (D:ev E y=.agg vs) (w:vA P t=V (s,b)) (J:vs.size=s) (r:∀v∈vs.toList,ak v)
  (A:vs.toList≠[]) (g:a.spot=I) (H:F a.block=V (Y c e' (0,0))) (C:a.off+s<=c.size) (h:K (cR E o.dst undef) (F.set a.block (Y (wr c a.off vs.toList) e'))):
  aG P (execOp (ev E) o) F (bJ P K o E):=by
 subst J;simp only [execOp,B,G,D,Instr.storeAt,Instr.sureAddr,aD,aL,storeVar,fc w,Value.cells];simp only [ne_eq,not_true_eq_false,if_false];exact fk vs.toList 0 F a c _ g H (by simpa using C) r A h
def aF (P:Program) (f:FuncId):Bool:=match P.funcs[f]? with|some fn=> !(fn.name== "runtime.NumGoroutine") && fn.body.isSome|none=>mz
theorem kH {f:FuncId} {args:Array Value} {Q:Next->PH->Prop} (g:aF P f=mY) (h:Q (.enter f args) F):aG P (callFunc f args) F Q:=by
 unfold aF at g;cases hf:P.funcs[f]? with
 |none=>simp [hf] at g
 |some r=>
  simp only [hf,VO,Bool.not_eq_true'] at g;simp only [callFunc,aD,program,aG,hf,g.1];have:r.body.isNone=mz:=by cases hb:r.body<;>simp_all
  simp only [this,VN,if_false,aL];exact h
theorem Tp {f:FuncId} {args:Array Operand} {g:Array TypeId} {vs:Array Value} (r:o.op=.call {callee:=.value (.func f),args:=args,argTypes:=g}) (B:aF P f=mY) (A:args.map (ev E)=vs)
  (h:aj P f vs F λv w=>K (cR E o.dst v) w):aG P (execOp (ev E) o) F (bJ P K o E):=by
 simp only [execOp,r,resolve,ev,Deferred.ofValue,aD,aL,invoke];refine kH B ?_;rw [show args.map (λx=>ev E x)=vs from A];simpa [bJ] using h
theorem Fv {f:FuncId} {g:Operand} {args:Array Operand} {r:Array TypeId} {vs first captured:Array Value} (w:o.op=.call {callee:=.value g,args:=args,argTypes:=r}) (D:ev E g=.func (.func f) first captured) (C:aF P f=mY) (B:args.map (ev E)=vs)
  (h:aj P f (first++vs++captured) F λv A=>K (cR E o.dst v) A):aG P (execOp (ev E) o) F (bJ P K o E):=by
 simp only [execOp,w,resolve,D,Deferred.ofValue,aD,aL,invoke];refine kH C ?_;rw [show args.map (λx=>ev E x)=vs from B];exact h
theorem NX {f:FuncId} {g:Operand} {args:Array Operand} {r:Array TypeId} {vs first captured:Array Value} (w:o.op=.defer {callee:=.value g,args:=args,argTypes:=r}) (B:ev E g=.func (.func f) first captured) (A:args.map (ev E)=vs)
  (hi:Cz P ⟨.fn (.func f) captured,first++vs⟩) (h:K (cR E o.dst undef) F):aG P (execOp (ev E) o) F (bJ P K o E):=by
 simp only [execOp,w,resolve,B,Deferred.ofValue,aD,aL];rw [show args.map (λx=>ev E x)=vs from A];exact ⟨hi,h⟩
theorem Lc {x y:Operand} {g:Array TypeId} {s u:Value} (r:o.op=.call {callee:=.builtin .append,args:= #[x,y],argTypes:=g}) (B:ev E x=s) (A:ev E y=u)
  (h:aG P (Builtin.append_ g o.type #[s,u]) F λv w=>K (cR E o.dst v) w):aG P (execOp (ev E) o) F (bJ P K o E):=by
 simp [execOp,r,resolve,B,A,invoke,builtin,bJ];exact h
theorem Tq {x y:Operand} {g:Array TypeId} {s u:Value} (r:o.op=.call {callee:=.builtin .copy,args:= #[x,y],argTypes:=g}) (B:ev E x=s) (A:ev E y=u)
  (h:aG P (Builtin.copy_ g o.type #[s,u]) F λv w=>K (cR E o.dst v) w):aG P (execOp (ev E) o) F (bJ P K o E):=by
 simp [execOp,r,resolve,B,A,invoke,builtin,bJ];exact h
theorem Ac {t:TypeId} {x y:Operand} {u v:Value} (g:o.op=.makeSlice t x y) (r:ev E x=u) (w:ev E y=v)
  (h:aG P (Instr.makeSlice t u v) F λv A=>K (cR E o.dst v) A):aG P (execOp (ev E) o) F (bJ P K o E):=by
 simp [execOp,g,r,w,bJ];exact h
theorem CN {t:TypeId} (g:o.op=.makeMap t I) (h:∀b,F b=I->K (cR E o.dst (.map (V b))) (F.set b (.map #[] 0))):
  aG P (execOp (ev E) o) F (bJ P K o E):=by
 simp only [execOp,g,Instr.makeMap,Option.map_none,newObj,aD,aL,aG,bJ];exact h
theorem oV {t:TypeId} {x y z:Operand} {u v q:Value} (g:o.op=.mapUpdate t x y z) (B:ev E x=u) (w:ev E y=v) (A:ev E z=q)
  (h:aG P (Instr.mapUpdate t u v q) F λ_ r=>K (cR E o.dst undef) r):aG P (execOp (ev E) o) F (bJ P K o E):=by
 simp only [execOp,g,B,w,A,aD,aL,bJ];exact h
theorem Ad {t:TypeId} {x y:Operand} {u v r:Value} {ok:Bool} (g:o.op=.lookup t x y ok) (w:ev E x=u) (A:ev E y=v) (h:pn P (Instr.lookup t u v ok) F r):RD P E F o r:=by simp only [RD,execOp,g,w,A,am,cJ];exact ⟨r,h,rfl⟩
end
def xG (F:PH) (K:PH->Prop):Prop:=K F
theorem Ya {F:PH} {K:PH->Prop} (h:xG F K):K F:=h
theorem tR {F:PH} {K:PH->Prop} (h:K F):xG F K:=h
section
variable {P:Program} {n:Nat} {Q:Exit->En->PH->Prop} {E:En} {F:PH} {ops:Array Oper} {l:List Oper} {d:Tmp} {op:Op} {ty:TypeId} {pos:String} {aft:Array Edge} {v:Value} {gd:Option (Nat×Bool)}
theorem Ae {t:Nat} (h:E t=v):upd E t v=E:=by
 funext x;unfold upd;by_cases g:x=t
 ·subst g;have:Nat.beq x x=mY:=by simp
  rw [this];exact h.symm
 ·rw [ln g];rfl
theorem Ld {c:Operand} {x y:Code} (g:ev E c=.bool mY) (h:HC P n x Q E F):HC P n (.cond c x y) Q E F:=qH g (λ_=>h) (λh=>by cases h)
theorem Le {c:Operand} {x y:Code} (g:ev E c=.bool mz) (h:HC P n y Q E F):HC P n (.cond c x y) Q E F:=qH g (λh=>by cases h) (λ_=>h)
section
variable {K:En->PH->Prop}
theorem QU {g:Nat->Option (Nat×Nat)} {cells r:Array Value} {i off:Nat} {v:Value} {rest:List (Nat×Value)} (B:g i=V (off,1)) (C:v.cells= #[v]) (A:Nat.blt off cells.size=mY)
  (h:Instr.fill g (cells.setIfInBounds off v) rest=V r):Instr.fill g cells ((i,v)::rest)=V r:=by
 have w:off<cells.size:=Ze A;simp only [Instr.fill,B,C];simp only [XB,wc,W7];rw [Υ (by simp;omega)];simpa using h
theorem Lf (vs:List Value):∀(c:Array Value) (off k:Nat),(vs.zipIdx k).foldl (λcs (x:Value×Nat)=>cs.setIfInBounds (off+x.2) x.1) c=wr c (off+k) vs:=by
 induction vs with
 |nil=>intro c off k;rfl
 |cons v vs ih=>intro c off k;simp only [List.zipIdx_cons,List.foldl_cons,wr];rw [ih];rfl
theorem QV {g:Nat->Option (Nat×Nat)} {cells cs r:Array Value} {i off s:Nat} {rest:List (Nat×Value)} (B:g i=V (off,s)) (C:cs.size=s) (A:Nat.ble (off+s) cells.size=mY)
  (h:Instr.fill g (wr cells off cs.toList) rest=V r):Instr.fill g cells ((i,.agg cs)::rest)=V r:=by
 have w:off+s<=cells.size:=Ze A;subst C;have e:cs.zipIdx.foldl (λcs (x:Value×Nat)=>cs.setIfInBounds (off+x.2) x.1) cells=wr cells off cs.toList:=by have:=Lf cs.toList cells off 0;rw [<- Array.foldl_toList];simpa using this
 unfold Instr.fill;rw [B];show (if (decide (cs.size≠cs.size) || decide (off+cs.size>cells.size))=mY then I else Instr.fill g (cs.zipIdx.foldl (λcs (x:Value×Nat)=>cs.setIfInBounds (off+x.2) x.1) cells) rest)=V r;rw [e,Υ (by simp;omega)];exact h
theorem qJ (z:Array Value) (w:Nat.blt 0 z.size=mY):∀n,Builtin.zeroCells z n=((List.replicate n z.toList).flatten).toArray:=by
 have A:0<z.size:=Ze w;intro n;apply Array.ext';apply List.ext_getElem
 ·simp [Builtin.zeroCells,List.length_flatten]
 ·intro i C g;simp only [Builtin.zeroCells,Array.toList_map,Array.toList_range,Yl,List.getElem_range];have key:∀n i (h:i<((List.replicate n z.toList).flatten).length),((List.replicate n z.toList).flatten)[i]=z[i % z.size]! :=by
   intro n;induction n with
   |zero=>intro i h;simp at h
   |succ n ih=>
    intro i h;have e:(List.replicate (n+1) z.toList).flatten=z.toList++(List.replicate n z.toList).flatten:=by simp [List.replicate_succ]
    by_cases hi:i<z.size
    ·have:((List.replicate (n+1) z.toList).flatten)[i]=z.toList[i]'(by simpa using hi):=by simp only [e];rw [List.getElem_append_left]
     rw [this,Nat.mod_eq_of_lt hi];simp [hi]
    ·have B:i - z.size<((List.replicate n z.toList).flatten).length:=by simp [List.length_flatten,Wo] at h ⊢;omega
     have:((List.replicate (n+1) z.toList).flatten)[i]=((List.replicate n z.toList).flatten)[i - z.size]:=by simp only [e];rw [List.getElem_append_right (by simpa using hi)];simp
     have r:i % z.size=(i - z.size) % z.size:=Nat.mod_eq_sub_mod (by omega);rw [this,ih _ B,r]
  exact (key n i (by simpa using g)).symm
theorem GP {z:Value} {cs:Array Value} {s:Nat} (r:cs.size=s) (g:z.cells.size=s) (A:Nat.blt 0 s=mY):Instr.fill (λi=>V (i*s,s)) (Builtin.zeroCells z.cells 1) [(0,.agg cs)]=V cs:=by
 have h:Nat.blt 0 z.cells.size=mY:=by rw [g];exact A
 rw [qJ _ h];have e:((List.replicate 1 z.cells.toList).flatten).toArray=z.cells:=by simp
 rw [e];refine QV (off:=0*s) rfl r (by rw [g];simp) ?_;have B:wr z.cells 0 cs.toList=cs:=by
  apply Array.ext
  ·rw [dK,g,r]
  ·intro i h w;have:=xL cs.toList z.cells 0 i (by simp [g,r]);rw [Χ (by simp;omega)] at this;simp only [VP] at this;rw [Wt h] at this;simp at this;rw [Wt w] at this;exact yC this
 rw [show 0*s=0 by omega,B];rfl
def NY:List Value->Prop
 |[]=>True
 |v::l=>v.cells= #[v]/\NY l
def Fw (k:Nat):List Value->List (Nat×Value)
 |[]=>[]
 |v::l=>(k,v)::Fw (k+1) l
theorem GQ:∀(l:List Value) (k:Nat) (cells:Array Value),NY l->k+l.length<=cells.size->Instr.fill (λi=>V (i*1,1)) cells (Fw k l)=V (wr cells k l):=by
 intro l;induction l with
 |nil=>intro k cells _ _;rfl
 |cons v l ih=>intro k cells g h;simp only [wc] at h;refine QU (off:=k) (by simp) g.1 (Nat.ble_eq_true_of_le (by omega)) ?_;exact ih (k+1) _ g.2 (by simp;omega)
theorem NZ {z:Value} {l:List Value} {m:Nat} {cells0:Array Value} (r:l.length=m) (w:Builtin.zeroCells z.cells m=cells0) (B:z.cells.size=1) (A:NY l):Instr.fill (λi=>V (i*1,1)) cells0 (Fw 0 l)=V l.toArray:=by
 subst r;subst w;have h:(Builtin.zeroCells z.cells l.length).size=l.length:=by simp [Builtin.zeroCells,B]
 rw [GQ l 0 _ A (by rw [h];omega)];congr 1;apply Array.ext
 ·rw [dK,h];simp
 ·intro i C g;have:=xL l (Builtin.zeroCells z.cells l.length) 0 i (by rw [h];omega);rw [Χ (by simp at g;omega)] at this;simp only [VP] at this;rw [Wt C] at this;simp at g;rw [N5 g] at this;simpa using yC this
end
theorem QW {x:Operand} {k:IntKind} {i:Int} {m:Nat} (g:ev E x=.int k i) (h:0<=i):dt (Option.map (ev E) (V x)) m i.toNat:=.inr ⟨k,i,by simp [g],h,rfl⟩
theorem xM {m:Nat}:dt I m m:=.inl ⟨rfl,rfl⟩
theorem QX:fR [] F:=λ_ h=>by cases h
theorem QY {i:Nat} {S:World->Prop} {w:cu} (h:CC F S) (A:fR w F):fR ((i,S)::w) F:=λr g=>by
 rcases tD.1 g with rfl|g
 ·exact h
 ·exact A r g
theorem QZ {tmps:Array Value} {t:Nat} {v u:Value} (h:Array.getD tmps t undef=v) (g:v=u):tmps[t]?.getD undef=u:=by rw [<- Y8,h,g]
theorem Lj {t s:Nat} {dd:TypeDesc} {a:Addr} {cs:Array Value} {b:Nat} {e:Ev} {w:World} (st:Sat e w F) (r:P.underlying t=V dd) (g:lq dd=mY) (A:vA P t=V (s,b)) (B:cs.size=s) (h:F.row a cs):
  (loadVar t a).run P w=.ok (.agg cs) w:=by
 subst B;refine qI _ F w _ ?_ st;simp [loadVar,am,dr r,g,bq A,eT h]
theorem jR {t:TypeId} {dd:TypeDesc} {a:Addr} {e:Ev} {w:World} (st:Sat e w F) (h:P.underlying t=V dd) (r:lq dd=mz) (g:F.cell a=V v):
  (loadVar t a).run P w=.ok v w:=by
 refine qI _ F w _ ?_ st;simp [loadVar,am,dr h,r,load,pn,g]
def gX (P:Program) (E:En) (F:PH):ResultVar->Value->Prop
 | .tmp t,v=>E t=v
 | .cell x t,v=>∃a,E x=.pointer (V a)/\∀e w,Sat e w F->(loadVar t a).run P w=.ok v w
theorem xN {t:Tmp} {v:Value} (g:E t=v):gX P E F (.tmp t) v:=g
theorem Ll {x:Tmp} {t s:Nat} {dd:TypeDesc} {a:Addr} {cs:Array Value} {b:Nat} (r:E x=.pointer (V a)) (w:P.underlying t=V dd) (g:lq dd=mY) (A:vA P t=V (s,b)) (B:cs.size=s) (h:F.row a cs):
  gX P E F (.cell x t) (.agg cs):=⟨a,r,λ_ _ st=>Lj st w g A B h⟩
theorem Lm {x:Tmp} {t:Nat} {dd:TypeDesc} {a:Addr} {v:Value} (w:E x=.pointer (V a)) (h:P.underlying t=V dd) (r:lq dd=mz) (g:F.cell a=V v):
  gX P E F (.cell x t) v:=⟨a,w,λ_ _ st=>jR st h r g⟩
theorem dP {r:ResultVar} {v:Value} (h:gX P E F r v) {e:Ev} {w:World} {tmps:Array Value} (st:Sat e w F) (g:∀t:Nat,Array.getD tmps t undef=E t):
  (∃t,r=.tmp t/\tmps[t]?.getD undef=v)\/∃x t a,r=.cell x t/\tmps[x]?.getD undef=.pointer (V a)/\(loadVar t a).run P w=.ok v w:=by
 cases r with
 |tmp t=>exact .inl ⟨t,rfl,QZ (g t) h⟩
 |cell x t=>obtain ⟨a,A,B⟩:=h;exact .inr ⟨x,t,a,rfl,QZ (g x) A,B e w st⟩
theorem aaF {g:Func} (h:g.results= #[]):oU P g E F (.tuple #[]):=λe w r _ _=>by simp [results,h]
theorem Yz {A:Func} {r:ResultVar} {v:Value} (h:A.results= #[r]) (B:gX P E F r v):oU P A E F v:=λe w g st C=>by have k:=dP B st C;clear C B;rcases k with ⟨t,rfl,D⟩|⟨x,t,a,rfl,D,G⟩<;>simp [results,asAddr, *]
theorem YA {D:Func} {r C:ResultVar} {v G:Value} (h:D.results= #[r,C]) (H:gX P E F r v) (g:gX P E F C G):oU P D E F (.tuple #[v,G]):=λe w B st A=>by have k:=dP H st A;have K:=dP g st A;clear A H g;rcases k with ⟨t,rfl,L⟩|⟨x,t,a,rfl,L,N⟩<;>rcases K with ⟨J,rfl,M⟩|⟨O,J,R,rfl,M,W⟩<;>simp [results,asAddr, *]
theorem aaG {K:Func} {r M A:ResultVar} {v L C:Value} (h:K.results= #[r,M,A]) (N:gX P E F r v) (B:gX P E F M L) (g:gX P E F A C):oU P K E F (.tuple #[v,L,C]):=λe w J st D=>by have k:=dP N st D;have R:=dP B st D;have G:=dP g st D;clear D N B g;rcases k with ⟨t,rfl,h1⟩|⟨x,t,a,rfl,h1,h2⟩<;>rcases R with ⟨t',rfl,h3⟩|⟨x',t',a',rfl,h3,h4⟩<;>rcases G with ⟨H,rfl,O⟩|⟨W,H,X,rfl,O,h6⟩<;>simp [results,asAddr, *]
theorem rt1 (g:Func) (R:Value->PH->Prop) {t:Tmp} {v:Value} (r:g.results= #[.tmp t]) (w:E t=v) (h:R v F):NJ P g R .ret E F:=⟨v,Yz r (xN w),h⟩
theorem rt2 (r:Func) (R:Value->PH->Prop) {t g:Tmp} {v w:Value} (B:r.results= #[.tmp t,.tmp g]) (A:E t=v) (C:E g=w) (h:R (.tuple #[v,w]) F):NJ P r R .ret E F:=⟨_,YA B (xN A) (xN C),h⟩
theorem jt {k:IntKind} {x:Int}:ak (.int k x):=⟨(λ_ h=>by cases h),(λ_ h=>by cases h)⟩
theorem Lu {x:Sl}:ak x.v:=⟨(λ_ h=>by cases h),(λ_ h=>by cases h)⟩
end
theorem au (F:PH):F.le F:=λ_ _ h=>h
theorem aa {F G H:PH} (h:F.le G) (k:G.le H):F.le H:=λb o g=>k b o (h b o g)
theorem ae {F:PH} {b:Nat} (o:Obj) (h:F b=I):F.le (F.set b o):=λx w g=>by
 unfold PH.set;by_cases r:x=b
 ·subst r;rw [h] at g;cases g
 ·simp [r,g]
theorem aK {F G:PH} (h:F.le G) {a:Addr} {v:Value} (g:F.cell a=V v):G.cell a=V v:=by
 unfold PH.cell at*;cases hb:F a.block with
 |none=>simp [hb] at g
 |some o=>rw [h _ _ hb];rw [hb] at g;exact g
theorem aT {F G:PH} (h:F.le G) {b:Nat} (g:G b=I):F b=I:=by
 cases hf:F b with
 |none=>rfl
 |some o=>rw [h _ _ hf] at g;cases g
theorem aH {F:PH} {b c:Nat} {o:Obj} (h:F b=I) (g:F c=V o):c≠b:=by intro e;subst e;rw [h] at g;cases g
@[simp] theorem aI (b o i:Nat):nR ⟨b,o,I⟩ i=⟨b,o+i,I⟩:=by unfold nR;split<;>simp_all
@[simp] theorem aq (F:PH) (b:Nat) (o:Obj):(F.set b o) b=V o:=by simp [PH.set]
theorem aw (F:PH) {b x:Nat} (o:Obj) (h:x≠b):(F.set b o) x=F x:=by simp [PH.set,h]
@[simp] theorem aR (F:PH) (b:Nat) (o o':Obj):(F.set b o).set b o'=F.set b o':=set_set F b o o'
theorem av {F:PH} {b i:Nat} {c:Array Value} {e:TypeId} {fr:Nat×Nat} (h:F b=V (Y c e fr)):F.cell ⟨b,i,I⟩=c[i]? :=by simp [PH.cell,h]
@[simp] theorem qit (F:PH) (b i:Nat) (c:Array Value) (e:TypeId) (fr:Nat×Nat):(F.set b (Y c e fr)).cell ⟨b,i,I⟩=c[i]? :=by simp [PH.cell]
def dk (fp:Nat->Prop) (F G:PH):Prop:=∀b o,F b=V o->¬fp b->G b=V o
theorem dk.refl (g:Nat->Prop) (F:PH):dk g F F:=λ_ _ h _=>h
theorem dk.trans {g:Nat->Prop} {F G H:PH} (h:dk g F G) (k:dk g G H):dk g F H:=λb o w r=>k b o (h b o w r) r
theorem dk.of_le {r:Nat->Prop} {F G:PH} (h:F.le G):dk r F G:=λb o g _=>h b o g
theorem dk.set {r:Nat->Prop} {F:PH} {b:Nat} (o:Obj) (h:r b\/F b=I):dk r F (F.set b o):=λx B g A=>by
 by_cases w:x=b
 ·subst w;rcases h with h|h
  ·exact absurd h A
  ·rw [h] at g;cases g
 ·rw [aw F o w];exact g
structure RdS (F:PH) (s:Sl) (size:Nat) (vs:List Value):Prop where
 len:vs.length=s.len*size
 cap:s.len<=s.cap
 cells:0<s.len->∃b o,s.qa5=V ⟨b,o,I⟩/\∀i,(h:i<vs.length)->F.cell ⟨b,o+i,I⟩=V vs[i]
theorem RdS.le {F G:PH} {s:Sl} {size:Nat} {vs:List Value} (h:RdS F s size vs) (A:F.le G):RdS G s size vs:=
 ⟨h.len,h.cap,λg=>by
  obtain ⟨b,o,r,w⟩:=h.cells g
  exact ⟨b,o,r,λi hi=>aK A (w i hi)⟩⟩
theorem RdS.nil (F:PH) (size:Nat):RdS F Sl.nil size []:=⟨by simp [Sl.nil],by simp [Sl.nil],by simp [Sl.nil]⟩
theorem RdS.new {F:PH} {b n cap size:Nat} {c:Array Value} {e:TypeId} {fr:Nat×Nat} {vs:List Value} (h:F b=V (Y c e fr)) (w:c.toList.take (n*size)=vs) (r:vs.length=n*size) (g:n<=cap):
  RdS F ⟨V ⟨b,0,I⟩,n,cap⟩ size vs:=⟨r,g,λ_=>⟨b,0,rfl,λi hi=>by
   rw [av h];subst w
   simp at hi ⊢⟩⟩
theorem RdS.row {F:PH} {s:Sl} {size:Nat} {vs:List Value} (h:RdS F s size vs) {a:Addr} (E:s.qa5=V a) (k:Nat) (cs:Array Value) (w:cs.toList=(vs.drop k).take cs.size):F.row (a.add k) cs:=by
 intro i hi;have g:k+i<vs.length:=by have:=congrArg List.length w;rw [zZ,W6,zN] at this;omega
 have D:0<s.len:=by
  rcases Yi s.len with r|r
  ·have:=h.len;rw [r,V9] at this;omega
  ·exact r
 obtain ⟨b,o,A,C⟩:=h.cells D;rw [E] at A;cases A;simp only [aI];rw [V8,C (k+i) g];have B:cs.toList[i]? =V cs[i]:=by simp [hi]
 rw [w,YC hi,List.getElem?_drop,N5 g] at B;exact B
theorem RdS.cell {F:PH} {s:Sl} {vs:List Value} (h:RdS F s 1 vs) {a:Addr} (w:s.qa5=V a) {i:Nat} (hi:i<vs.length):F.cell (a.add i)=V vs[i]:=by
 have r:0<s.len:=by have:=h.len;omega
 obtain ⟨b,o,g,A⟩:=h.cells r;rw [w] at g;cases g;simp only [aI];exact A i hi
theorem RdS.cut {F:PH} {s:Sl} {size:Nat} {vs:List Value} (h:RdS F s size vs) {l r m:Nat} (E:l<=r) (D:r<=s.len) (G:r<=m):RdS F (s.cut size l r m) size ((vs.drop (l*size)).take ((r - l)*size)):=by
 have g:(r - l)*size<=s.len*size - l*size:=by rw [<- Nat.sub_mul];exact Xj _ (by omega)
 refine ⟨by rw [zZ,W6,h.len];simp only [Sl.cut];omega,by simp only [Sl.cut];omega,λB=> ?_⟩;simp only [Sl.cut] at B ⊢;obtain ⟨b,o,C,A⟩:=h.cells (by omega);have w:¬m=l:=by omega
 refine ⟨b,o+l*size,by simp [w,C],λi hi=> ?_⟩;simp only [zZ,W6] at hi;rw [V8,A (l*size+i) (by omega)];simp [List.getElem_take,List.getElem_drop]
theorem ni {P:Program} {n:Nat} {F:PH} {Q:Unit->PH->Prop} (h:Q () F):aG P (askRoom n) F Q:=by
 unfold askRoom;split
 ·exact h
 ·exact h
theorem bT {P:Program} {t e size bytes:Nat} {z:Value} {n c:Int} {k k':IntKind} {F:PH} {Q:Value->PH->Prop} (K:P.underlying t=V (.slice e)) (E:vA P e=V (size,bytes)) (O:bu P e=V z) (w:z.cells.size=size)
  (M:0<=n) (W:n<=c) (X:(bytes:Int)*c<=281474976710656) (D:c<=9223372036854775807)
  (h:∀b,F b=I->Q (Sl.v ⟨V ⟨b,0,I⟩,n.toNat,c.toNat⟩) (F.set b (Y (Builtin.zeroCells z.cells c.toNat) e))):
  aG P (Instr.makeSlice t (.int k n) (.int k' c)) F Q:=by
 obtain ⟨i,hi,C⟩:=ft E;have J:IntKind.i64.wrap n=n:=aJ (by omega);have L:IntKind.i64.wrap c=c:=aJ (by omega);simp only [Instr.makeSlice,aD,bX K,asInt,asIntOf,aL,C,hi,J,L];have B:0<=c:=by omega
 have R:decide (c<0)=mz:=by simpa using B
 have G:decide ((bytes:Int)*c>2 ^ 48)=mz:=by simp;omega
 have N:decide (n<0)=mz:=by simpa using M
 have H:decide (n>c)=mz:=by simp;omega
 simp only [R,G,N,H,Yp,VN,if_false,aD];refine ni ?_;simp only [fc E];have fin:∀r:Array Value,(Array.range (c.toNat*size)).map (λi=>r[i % r.size]!)=Builtin.zeroCells z.cells c.toNat->
   aG P (do let a <- newRow e ((Array.range (c.toNat*size)).map (λi=>r[i % r.size]!));pure (Value.slice (V a) n.toNat c.toNat)) F Q:=by
  intro r A;rw [A];simp only [newRow,newObj,aD,aG,aL];exact h
 by_cases g:c.toNat*size=0
 ·simp only [g,if_true];have:=fin #[] (by simp [Builtin.zeroCells,g,w]);simp only [g] at this;exact this
 ·simp only [Υ g,aD,eg O,aL];exact fin z.cells (by simp [Builtin.zeroCells,w])
theorem iU {P:Program} {F:PH} {s:Sl} {size n:Nat} {vs:List Value} {Q:Array Value->PH->Prop} (h:RdS F s size vs) (B:n<=s.len) (C:Q (vs.take (n*size)).toArray F):aG P (Builtin.firstCells size n s.v) F Q:=by
 obtain ⟨A,len,cap⟩:=s;cases A with
 |none=>
  have r:len=0:=by
   rcases Yi len with r|r
   ·exact r
   ·obtain ⟨b,o,w,_⟩:=h.cells r;cases w
  have D:n=0:=by simp only at B;omega
  have:=h.len;simp only [r,V9,XY] at this;subst this;simpa [Sl.v,Builtin.firstCells] using C
 |some a=>
  simp only [Sl.v,Builtin.firstCells];have g:(vs.take (n*size)).toArray.size=n*size:=by have w:=h.len;have H:n*size<=len*size:=Xj _ B;simp only at w;rw [XB,zZ,w];omega
  refine gW _ _ _ _ ?_ C;have key:F.row a (vs.take (n*size)).toArray->pn P (loadCells a (n*size)) F (vs.take (n*size)).toArray:=λE=>by have:=eT (P:=P) E;rw [g] at this;exact this
  refine key ?_;by_cases G:n*size=0
  ·intro i hi;rw [g,G] at hi;omega
  ·have:=h.row (a:=a) rfl 0 (vs.take (n*size)).toArray (by rw [g];simp);simpa [nR] using this
theorem gn {P:Program} {F:PH} {s x:Sl} {t e size bytes ty:Nat} {z:Value} {h news:List Value} {Q:Value->PH->Prop} (ht:P.underlying t=V (.slice e)) (G:vA P e=V (size,bytes)) (hz:bu P e=V z) (_:z.cells.size=size)
  (ho:RdS F s size h) (hn:RdS F x size news) (N:∀v∈news,ak v) (D:(s.len+x.len)*bytes<=140737488355328) (W:s.len+x.len<=9223372036854775807)
  (X:x.len*size=0->s.len+x.len<=s.cap->Q (Sl.v ⟨s.qa5,s.len+x.len,s.cap⟩) F)
  (h1:0<x.len*size->s.len+x.len<=s.cap->∃b o c e',s.qa5=V ⟨b,o,I⟩/\F b=V (Y c e' (0,0))/\o+s.len*size+x.len*size<=c.size/\
   Q (Sl.v ⟨s.qa5,s.len+x.len,s.cap⟩) (F.set b (Y (wr c (o+s.len*size) news) e')))
  (h2:s.cap<s.len+x.len->∀cap b,s.len+x.len<=cap->F b=I->Q (Sl.v ⟨V ⟨b,0,I⟩,s.len+x.len,cap⟩) (F.set b (Y (h.toArray++news.toArray++Builtin.zeroCells z.cells (cap - (s.len+x.len))) e))):
  aG P (Builtin.append_ #[t,t] ty #[s.v,x.v]) F Q:=by
 have r:=hn.len;have M:=ho.len;have E:∀A,A news.toArray F->aG P (Builtin.firstCells size x.len x.v) F A:=λA H=>iU hn (qX _) (by rw [<- r,wy];exact H);have J:∀A,A h.toArray F->aG P (Builtin.firstCells size s.len s.v) F A:=λA H=>iU ho (qX _) (by rw [<- M,wy];exact H);obtain ⟨R,len,cap⟩:=s;obtain ⟨xb,L,xc⟩:=x;simp only [Builtin.append_,aD,Sl.v,List.getElem?_toArray,XZ,V3,bX ht,Builtin.lenOf,aL,fc G,VN,if_false,Bool.not_false,if_true] at*;obtain ⟨i,O,B⟩:=ft G;by_cases g:len+L<=cap
 ·rw [Χ g];simp only [aD];refine E _ ?_;by_cases w:L*size=0
  ·have C:news=[]:=V5 (by rw [r,w]);cases R with
   |none=>exact X w g
   |some a=>simp only [C,storeCells,aD,aL];exact X w g
  ·obtain ⟨b,o,c,e',g1,g2,g3,g4⟩:=h1 (by omega) g;cases g1;simp only [aD];refine fk news 0 F _ c _ (by simp) (by simpa using g2) (by simp only [aI];rw [r];omega) N (λK=>w (by rw [<- r,K];rfl)) ?_;simpa using g4
 ·rw [Υ g];simp only [aD,B]
  rw [Υ (by
   rintro ⟨ha,hb⟩;have:(IntKind.i64.max:Int)=9223372036854775807:=by decide
   rw [this] at ha
   omega)]
  have hg:=growslice_fits (need:=len+L) (old:=cap) (bytes:=bytes) (by omega) D;simp only [aD,B];rw [Υ (by rw [O];omega)];simp only [aD,choose];unfold aG;rw [Υ (by simp [Question.forced])];intro tt;simp only [aG,B];refine ni ?_;refine J _ ?_;refine E _ ?_;simp only [eg hz,newRow,newObj,aD,aG,aL];intro b hb;exact h2 (by omega) _ b (by simp only [Question.cut];omega) hb
open Go.ChangeShapes Go.WideShapes Go.ChangeAt Go.RowKit
def hF (W:World):PH:=λb=>W.heap[b]?
theorem Fx {W:World} {a:Addr} {v:Value} (h:W.cell? a=V v):(hF W).cell a=V v:=h
theorem qhA {P:Program} {f:FuncId} {args:Array Value} {W:World} (h:aj P f args (hF W) λv C=>v=.bool mY/\(hF W).le C):
  Calls P f args W λe B=>e=.returned (.bool mY)/\Below W.heap.size W B:=by
 refine (h ⟨W.os,W.tape,W.output,λ_=>I⟩ W ⟨rfl,rfl,rfl,λb o A=>A,λb o A=>(by cases A)⟩).mono ?_;rintro e B ⟨v,C,rfl,r,rfl,w⟩;have key:∀(k:Nat) (o:Obj),W.heap[k]? =V o->B.heap[k]? =V o:=λk o g=>r.heap k o (w k o g);refine ⟨rfl,r.os,r.tape,r.output,?_,λk g=> ?_⟩
 ·rcases Yi W.heap.size with D|D
  ·omega
  ·have E:=key (W.heap.size - 1) _ (Wt (by omega));have F:=(XX.1 E).1;omega
 ·rw [Wt g];exact key k _ (Wt g)
section
variable {H:Type} {enc:TypeId×Value->H} {P:Program} {W W':World}
theorem kI (C:laidOutB P=mY) {sp:Nat->Bool} (D:Below W.heap.size W W'):∀{A:List TypeId} {vs:List Value} {ds:List (DataW H)} {r:List MemPlace},
  A.all (λt=>P.readableRec t && decide (t<P.types.size))=mY->DataW.TrodAll enc P W 0 (λ_=>mY) mY A vs ds r->(∀x∈r,x.block<W.heap.size)->(∀x∈r,sp x.block=mY)->DataW.TrodAll enc P W' 0 sp mY A vs ds r
 |[],vs,ds,r,_,h,_,_=>by obtain ⟨rfl,rfl,rfl⟩:=trodAll_nil h;rfl
 |t::A,vs,ds,r,B,h,hlt,hsp=>by
  obtain ⟨v,J,d,K,p,q,rfl,rfl,rfl,G,E⟩:=trodAll_cons h;rw [Xv,VO,VO,δ] at B;obtain ⟨⟨F,w⟩,B⟩:=B
  exact ⟨p,q,WideElems.Trod_stays C F w G (λx g=>D.same (hlt x (Zg _ g))) (λx g=>hsp x (Zg _ g)),
   kI C D B E (λx g=>hlt x (List.mem_append_right _ g)) (λx g=>hsp x (List.mem_append_right _ g)),rfl⟩
theorem GR {f:Func} {s:ChangeSpec} {args:Array Value} {ds F:List (DataW H)} {before:List MemPlace} {D:TypeId} {fresh:Bool}
  (M:laidOutB P=mY) (J:s.vars=[]) (K:DataW.Whole enc P f.params.toList s.vars mz W args.toList ds F before) (g:f.params.toList.all (λt=>P.readableRec t && decide (t<P.types.size))=mY)
  (N:f.resultTypes= #[D]) (B:P.underlying D=V .bool) (E:Below W.heap.size W W')
  (C:s.fn H (ds++F)={results:=[.lit (.bool mY)],args:=ds}):
  s.post enc P f mz fresh mz mz W args (.bool mY) W':=by
 have r:=K;obtain ⟨p,q,L,G,rfl,_,_⟩:=K;rw [J] at G;obtain ⟨rfl,rfl⟩:=trodVars_none G;have w:∀x∈p,x.block<W.heap.size:=λx A=>by simpa using r.lt x (Zg _ A)
 refine ⟨ds,[],p++[],[],p,[],r,?_,?_,?_,E.frame _,λh=>by cases h⟩
 ·rw [C,N];exact trodAll_cons_mk (shut_bool B _) trodAll_mk0
 ·rw [C];exact kI M E g L w (λx A=>by simpa using w x A)
 ·rw [C,J];rfl
end
set_option maxRecDepth 10000
def bt (f:Nat->Bool):Nat->Nat
 |0=>0
 |n+1=>2 ^ n*(if f n then 1 else 0)+bt f n
theorem tE (f:Nat->Bool):∀n,bt f n<2 ^ n
 |0=>by simp [bt]
 |n+1=>by have:=tE f n;unfold bt;rw [Nat.pow_succ];split<;>omega
theorem xO (f:Nat->Bool):∀n j,(bt f n).testBit j=(decide (j<n) && f j)
 |0,j=>by simp [bt]
 |n+1,j=>by
  unfold bt;rw [YJ _ (tE f n)];split
  ·rename_i h;rw [xO f n j];simp [h,show j<n+1 by omega]
  ·rename_i h;by_cases g:j=n
   ·subst g;cases f j<;>simp
   ·have:j - n≠0:=by omega
    rw [show decide (j<n+1)=mz by simp;omega];split
    ·have:=Zi (n:=0) (m:=j - n);rw [Nat.pow_zero] at this;rw [this];simp;omega
    ·simp
theorem u9 {x n:Nat} {f:Nat->Bool} (r:x<2 ^ n) (h:∀j,j<n->x.testBit j=f j):x=bt f n:=
 Nat.eq_of_testBit_eq λj=>by
  rw [xO];by_cases g:j<n
  ·rw [h j g];simp [g]
  ·rw [Nat.testBit_lt_two_pow (Nat.lt_of_lt_of_le r (Wu (by omega) (by omega)))];simp [g]
theorem Lw {n:Nat} {f g:Nat->Bool} (h:∀j,j<n->f j=g j):bt f n=bt g n:=
 u9 (tE f n) λj r=>by rw [xO,h j r];simp [r]
def wd (P:Nat->Bool) (k:Nat):Nat:=bt (λj=>P (64*k+j)) 64
theorem oW (P:Nat->Bool) (k:Nat):wd P k<18446744073709551616:=tE _ 64
theorem iK (P:Nat->Bool) (k:Nat) {j:Nat} (g:j<64):(wd P k).testBit j=P (64*k+j):=by unfold wd;rw [xO];simp [g]
theorem xP (k:Nat):wd (λ_=>mz) k=0:=(u9 (x:=0) (by decide) λj _=>by simp).symm
theorem qfp (P Q:Nat->Bool) (k:Nat):wd (λi=>P i || Q i) k=wd P k ||| wd Q k:=
 (u9 (x:=wd P k ||| wd Q k) (Nat.or_lt_two_pow (tE _ 64) (tE _ 64)) λj g=>by rw [Nat.testBit_or,iK P k g,iK Q k g]).symm
theorem Ts (P Q:Nat->Bool) (k:Nat):wd (λi=>P i && Q i) k=wd P k &&& wd Q k:=
 (u9 (x:=wd P k &&& wd Q k) (Nat.and_lt_two_pow _ (tE _ 64)) λj g=>by rw [Nat.testBit_and,iK P k g,iK Q k g]).symm
theorem iL {P:Nat->Bool} {k:Nat}:wd P k=0↔∀j,j<64->P (64*k+j)=mz:=by
 constructor
 ·intro h j g;have:=iK P k g;rw [h] at this;simpa using this.symm
 ·intro h;exact (u9 (x:=0) (by decide) λj g=>by rw [h j g];simp).symm
theorem nj {x:Int} (g:0<=x) (h:x<18446744073709551616):IntKind.u64.wrap x=x:=by unfold IntKind.wrap;simp only [IntKind.bits,IntKind.signed];simp only [W5,VN,if_false];omega
theorem Fy {a:Nat} (h:a<18446744073709551616):(BitVec.ofInt (IntKind.u64).bits (a:Int)).toNat=a:=by
 rw [BitVec.toNat_ofInt];show ((a:Int) % ((2 ^ 64:Nat):Int)).toNat=a;have:((2 ^ 64:Nat):Int)=18446744073709551616:=by decide
 rw [this];omega
theorem Ly {a b:Nat} (h:a<18446744073709551616) (g:b<18446744073709551616):IntKind.u64.wrap ((BitVec.ofInt (IntKind.u64).bits (a:Int) ||| BitVec.ofInt (IntKind.u64).bits (b:Int)).toNat)=((a ||| b:Nat):Int):=by rw [BitVec.toNat_or,Fy h,Fy g];have:a ||| b<2 ^ 64:=Nat.or_lt_two_pow h g;exact nj (by omega) (by omega)
theorem xQ {a b:Nat} (h:a<18446744073709551616) (g:b<18446744073709551616):IntKind.u64.wrap ((BitVec.ofInt (IntKind.u64).bits (a:Int) &&& BitVec.ofInt (IntKind.u64).bits (b:Int)).toNat)=((a &&& b:Nat):Int):=by rw [BitVec.toNat_and,Fy h,Fy g];have:a &&& b<2 ^ 64:=Nat.and_lt_two_pow _ g;exact nj (by omega) (by omega)
def Low (x t:Nat):Prop:=∃m,x=2 ^ (t+1)*m+2 ^ t
theorem Low.of {x t:Nat} (g:x.testBit t=mY) (r:∀j,j<t->x.testBit j=mz):Low x t:=by
 refine ⟨x / 2 ^ (t+1),Nat.eq_of_testBit_eq λj=> ?_⟩;rw [YJ _ (Nat.pow_lt_pow_right (by omega) (by omega))];split
 ·rename_i h;rw [Zi];by_cases w:j=t
  ·subst w;rw [g];simp
  ·rw [r j (by omega)];simp;omega
 ·rw [Nat.testBit_div_two_pow];congr 1;omega
theorem Low.pos {x t:Nat} (h:Low x t):0<x:=by obtain ⟨m,rfl⟩:=h;have:=Nat.two_pow_pos t;omega
theorem Low.clear {x t:Nat} (h:Low x t) (j:Nat):(x &&& (x - 1)).testBit j=(x.testBit j && decide (j≠t)):=by
 obtain ⟨m,rfl⟩:=h;have w:=Nat.two_pow_pos t;have e:2 ^ (t+1)*m+2 ^ t - 1=2 ^ (t+1)*m+(2 ^ t - 1):=by omega
 have r:2 ^ t<2 ^ (t+1):=Nat.pow_lt_pow_right (by omega) (by omega);rw [e,Nat.testBit_and,YJ _ r,YJ _ (by omega)];split
 ·rw [Zi,Nat.testBit_two_pow_sub_one];by_cases g:t=j
  ·subst g;simp
  ·simp [g]
 ·rename_i h;rw [Bool.and_self];simp;omega
theorem Low.neg {x t:Nat} (h:Low x t) (E:x<2 ^ 64):x &&& (2 ^ 64 - x)=2 ^ t:=by
 have D:t<64:=by
  rcases Nat.lt_or_ge t 64 with g|g
  ·exact g
  ·obtain ⟨m,rfl⟩:=h;have:=Wu (n:=2) (by omega) g;omega
 obtain ⟨m,rfl⟩:=h;have C:=Nat.two_pow_pos t;have w:2 ^ t<2 ^ (t+1):=Nat.pow_lt_pow_right (by omega) (by omega);have r:(2:Nat) ^ 64=2 ^ (t+1)*2 ^ (63 - t):=by rw [<- Nat.pow_add];congr 1;omega
 have A:m<2 ^ (63 - t):=by
  rcases Nat.lt_or_ge m (2 ^ (63 - t)) with g|g
  ·exact g
  ·have:=Nat.mul_le_mul_left (2 ^ (t+1)) g;omega
 have e:2 ^ 64 - (2 ^ (t+1)*m+2 ^ t)=2 ^ (t+1)*(2 ^ (63 - t) - (m+1))+2 ^ t:=by
  have B:2 ^ (t+1)=2 ^ t+2 ^ t:=by rw [Nat.pow_succ];omega
  have:2 ^ (t+1)*(2 ^ (63 - t) - (m+1))=2 ^ (t+1)*2 ^ (63 - t) - 2 ^ (t+1)*(m+1):=Nat.mul_sub _ _ _;rw [this,<- r,Nat.mul_add,xB];have:2 ^ (t+1)*m+2 ^ (t+1)<=2 ^ 64:=by rw [r];have:=Nat.mul_le_mul_left (2 ^ (t+1)) (show m+1<=2 ^ (63 - t) by omega);rw [Nat.mul_add,xB] at this;exact this
  omega
 rw [e];refine Nat.eq_of_testBit_eq λj=> ?_;rw [Nat.testBit_and,YJ _ w,YJ _ w,Zi];split
 ·rw [Bool.and_self]
 ·rename_i h;rw [Nat.testBit_two_pow_sub_succ A];have:decide (t=j)=mz:=by simp;omega
  rw [this];cases m.testBit (j - (t+1))<;>simp
def Af:List Nat:=[0,1,56,2,57,49,28,3,61,58,42,50,38,29,17,4,62,47,59,36,45,43,51,22,53,39,33,30,24,18,12,5,63,55,48,27,60,41,37,16,46,35,44,21,52,32,23,11,54,26,40,15,34,20,31,10,25,14,19,9,13,8,7,6]
theorem qfq:∀t,t<64->(2 ^ t*285870213051353865 % 18446744073709551616) / 288230376151711744<64/\Af[(2 ^ t*285870213051353865 % 18446744073709551616) / 288230376151711744]? =V t:=by decide
section
variable {P:Program} {F:PH} {E:En} {o:Oper} {x y:Operand} {t t':TypeId}
theorem oX {op:BinOp} {c d:Array Value} (h:P.eqGuardType P.depth t=mz):pn P (eqGuard op t x y (.agg c) (.agg d)) F ():=by cases op<;>simp [eqGuard,program,am,pn,h]
theorem N0 {c d:Array Value} {r:Bool} (h:o.op=.binOp .eql t x y t') (A:ev E x=.agg c) (w:ev E y=.agg d) (B:P.eqGuardType P.depth t=mz) (g:pn P (Op.equal t (.agg c) (.agg d)) F r):
  RD P E F o (.bool r):=jP h A w (oX B) g rfl
theorem N7 {c d:Array Value} {r:Bool} (h:o.op=.binOp .neq t x y t') (A:ev E x=.agg c) (w:ev E y=.agg d) (B:P.eqGuardType P.depth t=mz) (g:pn P (Op.equal t (.agg c) (.agg d)) F r):
  RD P E F o (.bool (!r)):=jQ h A w (oX B) g rfl
end
section
variable {K:Type} [DecidableEq K]
structure oY (P:Program) (kt:TypeId) (enc:K->Value):Prop where
 eq:∀F a b,pn P (Op.equal kt (enc a) (enc b)) F (decide (a=b))
 chk:∀F e a,pn P (Instr.checkKey e 10000 kt (enc a)) F ()
 same:∀a,Instr.sameBits 10000 (enc a) (enc a)=mY
 kind:∃d,P.underlying kt=V d/\((∀a b,Instr.sameNow d (enc a) (enc b)=V (decide (a=b)))\/∀a b,Instr.sameNow d (enc a) (enc b)=I)
structure fS (P:Program) (mt:TypeId) (enc:K->Value) (z:Value):Prop where
 ex:∃kt e,P.underlying mt=V (.map kt e)/\bu P e=V z/\oY P kt enc
def lk (k:K):List (K×Value)->Option Value
 |[]=>I
 |p::r=>if k=p.1 then V p.2 else lk k r
def Wr (k:K):List (K×Value)->Nat->Option (Nat×Value)
 |[],_=>I
 |p::r,i=>if k=p.1 then V (i,p.2) else Wr k r (i+1)
def WM (k:K) (v:Value):List (K×Value)->List (K×Value)
 |[]=>[(k,v)]
 |p::r=>if k=p.1 then (k,v)::r else p::WM k v r
theorem CO (k k':K) (v:Value):∀(L:List (K×Value)),lk k' (WM k v L)=if k'=k then V v else lk k' L
 |[]=>rfl
 |p::r=>by
  unfold WM;split
  ·rename_i h;simp only [lk];split
   ·rfl
   ·rename_i g;rw [Υ (by rw [<- h];exact g)]
  ·rename_i h;simp only [lk,CO k k' v r];split
   ·rename_i w;rw [Υ (by rintro rfl;exact h w)]
   ·rfl
theorem nk (k:K) (v:Value):∀(L:List (K×Value)) (i:Nat),Wr k L i=I->lk k L=I/\WM k v L=L++[(k,v)]
 |[],_,_=>⟨rfl,rfl⟩
 |p::r,i,h=>by
  unfold Wr at h;split at h
  ·cases h
  ·rename_i g;obtain ⟨w,A⟩:=nk k v r _ h;exact ⟨by unfold lk;rw [Υ g,w],by unfold WM;rw [Υ g,A];rfl⟩
theorem nq (k:K) (v:Value):∀(L:List (K×Value)) (i j:Nat) (w:Value),Wr k L i=V (j,w)->∃d,j=i+d/\d<L.length/\L[d]? =V (k,w)/\lk k L=V w/\WM k v L=L.set d (k,v)
 |[],_,_,_,h=>by cases h
 |p::r,i,j,w,h=>by
  unfold Wr at h;split at h
  ·rename_i g;cases h;refine ⟨0,rfl,by simp,?_,by unfold lk;rw [Χ g],by unfold WM;rw [Χ g];rfl⟩;subst g;rfl
  ·rename_i A;obtain ⟨d,F,E,C,D,B⟩:=nq k v r _ _ _ h;exact ⟨d+1,by omega,by simp only [wc];omega,by simpa using C,by unfold lk;rw [Υ A,D],by unfold WM;rw [Υ A,B];rfl⟩
def dX (enc:K->Value) (m:K->Option Value) (o:Obj):Prop:=
 ∃(es:Array MapEntry) (c:Nat) (L:List (K×Value)),o=.map es c/\es.toList.map (λe=>(e.key,e.val))=L.map (λp=>(enc p.1,p.2))/\∀k,m k=lk k L
theorem dX.empty (enc:K->Value):dX enc (λ_=>I) (.map #[] 0):=⟨#[],0,[],rfl,rfl,λ_=>rfl⟩
theorem dX.not_cells {enc:K->Value} {m:K->Option Value} {o:Obj} (h:dX enc m o):∀c e fr,o≠Y c e fr:=by obtain ⟨g,c,L,rfl,_⟩:=h;intro c e fr h;cases h
variable {P:Program} {F:PH} {kt mt:TypeId} {enc:K->Value} {z:Value}
theorem ju (r:oY P kt enc) (k:K):∀(g:List MapEntry) (L:List (K×Value)) (i:Nat),g.map (λe=>(e.key,e.val))=L.map (λp=>(enc p.1,p.2))->
  pn P (Instr.findAsking kt (enc k) g i) F (Wr k L i)
 |[],[],_,_=>rfl
 |[],_::_,_,h=>by cases h
 |_::_,[],_,h=>by cases h
 |e::g,p::L,i,h=>by
  simp only [xw,List.cons.injEq,Yq] at h;obtain ⟨⟨B,A⟩,C⟩:=h;simp only [Instr.findAsking,am];refine ⟨_,by rw [B];exact r.eq F k p.1,?_⟩;unfold Wr;by_cases w:k=p.1
  ·simp [w,A]
  ·simpa [w] using ju r k g L (i+1) C
theorem tF {d:TypeDesc} (w:∀a b,Instr.sameNow d (enc a) (enc b)=V (decide (a=b))) (k:K):∀(g:List MapEntry) (L:List (K×Value)) (i:Nat),g.map (λe=>(e.key,e.val))=L.map (λp=>(enc p.1,p.2))->
  Instr.findNow d (enc k) g i=V (Wr k L i)
 |[],[],_,_=>rfl
 |[],_::_,_,h=>by cases h
 |_::_,[],_,h=>by cases h
 |e::g,p::L,i,h=>by
  simp only [xw,List.cons.injEq,Yq] at h;obtain ⟨⟨B,A⟩,C⟩:=h;simp only [Instr.findNow,B,w];unfold Wr;by_cases r:k=p.1
  ·simp [r,A]
  ·simpa [r] using tF w k g L (i+1) C
theorem gq (w:oY P kt enc) (k:K) (g:List MapEntry) (L:List (K×Value)) (h:g.map (λe=>(e.key,e.val))=L.map (λp=>(enc p.1,p.2))):
  pn P (Instr.findKey kt (enc k) g) F (Wr k L 0):=by
 obtain ⟨d,hd,r⟩:=w.kind;unfold Instr.findKey;simp only [am];refine ⟨d,(az hd _).2 rfl,?_⟩;rcases r with r|r
 ·rw [tF r k g L 0 h];rfl
 ·cases g with
  |nil=>
   cases L with
   |nil=>rfl
   |cons _ _=>cases h
  |cons e g=>
   cases L with
   |nil=>cases h
   |cons p L=>
    have A:e.key=enc p.1:=by simp only [xw,List.cons.injEq,Yq] at h;exact h.1.1
    have:Instr.findNow d (enc k) (e::g) 0=I:=by simp only [Instr.findNow,A,r]
    rw [this];exact ju w k _ _ 0 h
theorem bM (G:fS P mt enc z) {r:Nat} {o:Obj} {m:K->Option Value} (J:F r=V o) (A:dX enc m o) (k:K) (ok:Bool):
  pn P (Instr.lookup mt (.map (V r)) (enc k) ok) F (if ok then .tuple #[(m k).getD z,.bool (m k).isSome] else (m k).getD z):=by
 obtain ⟨kt,e,M,E,g⟩:=G.ex;have h:=A.not_cells;obtain ⟨N,c,L,rfl,B,C⟩:=A;have O:=λw=>nq k w L 0;have D:=nk k z L 0;unfold Instr.lookup;simp only [am];refine ⟨_,(az M _).2 rfl,?_⟩;simp only [am];refine ⟨_,⟨_,J,h,rfl⟩,?_⟩;simp only [am];refine ⟨N,rfl,(),g.chk F _ k,?_⟩;cases hfd:Wr k L 0 with
 |none=>refine ⟨_,gq g k _ _ B,?_⟩;rw [hfd];simp only [am];refine ⟨z,(gD E _).2 rfl,_,rfl,?_⟩;rw [C,(D hfd).1];rfl
 |some q=>obtain ⟨j,v⟩:=q;obtain ⟨d,_,_,_,H,_⟩:=O z j v hfd;refine ⟨_,gq g k _ _ B,?_⟩;rw [hfd];simp only [am];refine ⟨_,rfl,?_⟩;rw [C,H];rfl
theorem bh (hm:fS P mt enc z) {r:Nat} {o:Obj} {m:K->Option Value} (J:F r=V o) (N:dX enc m o) (k:K) (v:Value) {Q:Unit->PH->Prop}
  (h:∀o',dX enc (λk'=>if k'=k then V v else m k') o'->Q () (F.set r o')):aG P (Instr.mapUpdate mt (.map (V r)) (enc k) v) F Q:=by
 obtain ⟨kt,e,h1,h2,M⟩:=hm.ex;have g:=N.not_cells;obtain ⟨B,c,L,rfl,G,W⟩:=N;have X:=nq k v L 0;have hn:=nk k v L 0;unfold Instr.mapUpdate;simp only [aD,bX h1];refine ⟨_,J,g,?_⟩;rw [show (Sem.pure (Obj.map B c):Sem Obj)=pure (Obj.map B c) from rfl];simp only [aL,aD];refine gW _ _ _ _ (M.chk F _ k) ?_;refine gW _ _ _ _ (gq M k _ _ G) ?_;have E:∀k',(if k'=k then V v else m k')=lk k' (WM k v L):=λk'=>by rw [CO,W]
 cases hfd:Wr k L 0 with
 |none=>refine ⟨_,J,g,h _ ⟨_,_,WM k v L,rfl,?_,E⟩⟩;rw [(hn hfd).2];simp [G]
 |some q=>
  obtain ⟨j,w⟩:=q;obtain ⟨d,hj,hd,R,h6,O⟩:=X j w hfd;obtain rfl:j=d:=by omega
  have C:B.size=L.length:=by simpa using congrArg List.length G
  have H:(B[j]?.map (·.key)).getD (enc k)=enc k:=by
   have:=congrArg (λl=>l[j]?) G;simp only [yc,R,Vz] at this;have A:j<B.size:=by omega
   simp [A] at this ⊢;exact this.1
  simp only [aD,H,Instr.keyThatStays,M.same,if_true,aL];refine ⟨_,J,g,h _ ⟨_,_,WM k v L,rfl,?_,E⟩⟩;rw [O];apply WJ;intro i;have D:=congrArg (λl=>l[i]?) G;simp only [yc] at D;simp only [Array.toList_modify,yc,YH,Yj];by_cases hi:j=i
  ·subst hi;have A:j<B.toList.length:=by simpa [C] using hd
   rw [N5 A];simp [hd]
  ·simp only [hi,if_false];simpa using D
end
theorem Wp {F:PH} {b o:Nat} {v:Value} {c:Array Value} {e:TypeId} {K:PH->Prop} (h:F b=V (Y c e (0,0))) (g:o<c.size) (k:K (F.set b (Y (c.setIfInBounds o v) e))):
  ∃c e,F (ou b o I).block=V (Y c e (0,0))/\(ou b o I).spot=I/\(ou b o I).off<c.size/\
   xG (F.set (ou b o I).block (Y (c.setIfInBounds (ou b o I).off v) e)) K:=⟨c,e,h,rfl,g,k⟩
theorem tG {F:PH} {A:Addr} {b o:Nat} {v:Value} {c:Array Value} {e:TypeId} {K:PH->Prop} (r:A=⟨b,o,I⟩) (h:F b=V (Y c e (0,0))) (g:o<c.size) (k:K (F.set b (Y (c.setIfInBounds o v) e))):
  ∃c e,F A.block=V (Y c e (0,0))/\A.spot=I/\A.off<c.size/\xG (F.set A.block (Y (c.setIfInBounds A.off v) e)) K:=by
 subst r;exact Wp h g k
theorem Lz {c d:Array Value} (h:c.size=d.size):wr c 0 d.toList=d:=by
 apply Array.ext
 ·rw [dK,h]
 ·intro i g r;have:=xL d.toList c 0 i (by simp [h]);rw [Χ (by simp;omega)] at this;simp only [VP] at this;rw [Wt g] at this;simp at this;rw [Wt r] at this;exact yC this
theorem Ud {F:PH} {b n:Nat} {v c:Array Value} {e:TypeId} {K:PH->Prop} (h:F b=V (Y c e (0,0))) (w:v.size=n) (r:c.size=n) (g:∀x∈v.toList,ak x) (k:K (F.set b (Y v e))):
  v.size=n/\(∀x∈v.toList,ak x)/\∃c e,F (ou b 0 I).block=V (Y c e (0,0))/\(ou b 0 I).spot=I/\(ou b 0 I).off+n<=c.size/\
   xG (F.set (ou b 0 I).block (Y (wr c (ou b 0 I).off v.toList) e)) K:=
 ⟨w,g,c,e,h,rfl,by simp [r],by
  unfold xG;rw [show (ou b 0 I).off=0 from rfl,Lz (by rw [r,w])]
  exact k⟩
theorem ZR (v:Value) (h:v.cells= #[v]) (n:Nat):Builtin.zeroCells v.cells n=(List.replicate n v).toArray:=by
 rw [qJ _ (by rw [h];rfl),h];congr 1;induction n with
 |zero=>rfl
 |succ n ih=>simp [List.replicate_succ,ih]
theorem YD {n:Nat} (h:n<=9223372036854775807):IntKind.i64.wrap (n:Int)=n:=aJ (by omega)
theorem ff {n:Nat} (h:n<9223372036854775807):IntKind.i64.wrap ((n:Int)+1)=((n+1:Nat):Int):=by rw [aJ (by omega)];omega
theorem jS (vs:List Value):∀(c:List Value) (o:Nat),o+vs.length<=c.length->wr c.toArray o vs=(c.take o++vs++c.drop (o+vs.length)).toArray:=by
 intro c o h;apply Array.ext
 ·rw [dK];simp;omega
 ·intro i g r;have:=xL vs c.toArray o i (by simpa using h);rw [Wt g] at this;rw [dK] at g;simp only [XB] at g;have A:(c.take o++vs++c.drop (o+vs.length)).toArray[i]=(c.take o++vs++c.drop (o+vs.length))[i]'(by simpa using r):=by simp
  rw [A];apply yC;rw [<- N5,this];by_cases hi:i<o
  ·rw [Υ (by omega),xK,zR (by simp;omega)];simp [hi]
  ·by_cases w:i<o+vs.length
   ·rw [Χ ⟨by omega,w⟩,zR (by simp;omega),UR (by simp;omega)];simp;congr 1;omega
   ·rw [Υ (by omega),UR (by simp;omega)];simp;congr 1;omega
def bP (F:PH) (e size:Nat) (s:Sl) (vs:List Value):Prop:=
 (s=Sl.nil/\vs=[])\/∃b cur,s.qa5=V ⟨b,0,I⟩/\F b=V (Y cur e (0,0))/\cur.size=s.cap*size/\s.len<=s.cap/\vs.length=s.len*size/\cur.toList.take (s.len*size)=vs
theorem bP.rd {F:PH} {e size:Nat} {s:Sl} {vs:List Value} (h:bP F e size s vs):RdS F s size vs:=by
 rcases h with ⟨rfl,rfl⟩|⟨b,B,A,g,E,C,r,D⟩
 ·exact RdS.nil F size
 ·obtain ⟨w,len,cap⟩:=s;cases A;exact RdS.new g D r C
theorem bP.keep {F G:PH} {e size:Nat} {s:Sl} {vs:List Value} (h:bP F e size s vs) (w:∀a,s.qa5=V a->G a.block=F a.block):bP G e size s vs:=by
 rcases h with h|⟨b,g,r,A,B⟩
 ·exact .inl h
 ·exact .inr ⟨b,g,r,(w _ r).trans A,B⟩
theorem tH {F:PH} {s x:Sl} {t e size bytes ty:Nat} {z:Value} {P:Program} {B news:List Value} {Q:Value->PH->Prop} (ht:P.underlying t=V (.slice e)) (N:vA P e=V (size,bytes)) (hz:bu P e=V z) (E:z.cells.size=size) (L:0<size)
  (O:bP F e size s B) (A:RdS F x size news) (hx:0<x.len) (M:∀v∈news,ak v) (D:(s.len+x.len)*bytes<=140737488355328) (C:s.len+x.len<=9223372036854775807)
  (h:∀G R b o,R=F.set b o->bP R e size G (B++news)->G.len=s.len+x.len->(∀a,G.qa5=V a->a.block=b)->((∃a,s.qa5=V a/\a.block=b)\/F b=I)->Q G.v R):
  aG P (Builtin.append_ #[t,t] ty #[s.v,x.v]) F Q:=by
 have W:0<x.len*size:=Nat.mul_pos hx L;have w:=O.rd.len;refine gn ht N hz E O.rd A M D C (λh0=>by omega) ?_ ?_
 ·intro _ g;rcases O with ⟨rfl,rfl⟩|⟨b,r,J,h2,h3,h4,K,h6⟩
  ·simp [Sl.nil] at g;omega
  ·have a0:s.len*size+x.len*size<=r.size:=by rw [h3,<- Wo];exact Xj _ g
   refine ⟨b,0,r,e,J,h2,by omega,?_⟩;refine h ⟨_,_,_⟩ _ b _ rfl (.inr ⟨b,_,J,aq _ _ _,by rw [dK,h3],g,by simp [K,A.len,Wo],?_⟩) rfl (λa H=>by rw [J] at H;cases H;rfl) (.inl ⟨_,J,rfl⟩);simp only [ye];have X:=jS news r.toList (s.len*size) (by simp [A.len];omega);rw [show r.toList.toArray=r by simp] at X;rw [X];simp only;rw [h6,Wo];rw [Xh (by simp [K,A.len]),zc (by simp [K,A.len])]
 ·intro hgt cap b hc hb;refine h ⟨_,_,_⟩ _ b _ rfl (.inr ⟨b,_,rfl,aq _ _ _,?_,hc,by simp [w,A.len,Wo],?_⟩) rfl (λa H=>by cases H;rfl) (.inr hb)
  ·simp [Builtin.zeroCells,E,w,A.len];rw [<- Wo,<- Wo];congr 1;omega
  ·simp only [Yf,Zj];rw [Xh (by simp [w,A.len,Wo]),zc (by simp [w,A.len,Wo])]
theorem oZ {F:PH} {s x:Sl} {t e size bytes J:Nat} {z:Value} {P:Program} {g news:List Value} {Q:Value->PH->Prop} (L:P.underlying t=V (.slice e)) (D:vA P e=V (size,bytes)) (K:bu P e=V z) (E:z.cells.size=size)
  (H:bP F e size s g) (G:RdS F x size news) (B:x.len=0) (A:s.len*bytes<=140737488355328) (w:s.len<=9223372036854775807)
  (h:Q s.v F):aG P (Builtin.append_ #[t,t] J #[s.v,x.v]) F Q:=by
 have r:news=[]:=V5 (by rw [G.len,B,V9]);subst r;refine gn L D K E H.rd G (by simp) (by rw [B];exact A) (by rw [B];exact w) (λ_ _=> ?_) (λC=> ?_) (λC=> ?_)
 ·rw [B];exact h
 ·rw [B] at C;simp at C
 ·have:=H.rd.cap;omega
theorem iM {F0 F:PH} {s x:Sl} {t e size bytes ty:Nat} {z:Value} {P:Program} {B news:List Value} {Q:Value->PH->Prop} (ht:P.underlying t=V (.slice e)) (K:vA P e=V (size,bytes)) (hz:bu P e=V z) (L:z.cells.size=size) (R:0<size)
  (E:F0.le F) (ho:bP F e size s B) (A:∀a,s.qa5=V a->F0 a.block=I) (M:RdS F x size news) (a1:∀v∈news,ak v) (g:(s.len+x.len)*bytes<=140737488355328) (H:s.len+x.len<=9223372036854775807)
  (h:∀C N,F0.le N->bP N e size C (B++news)->C.len=s.len+x.len->(∀a,C.qa5=V a->F0 a.block=I)->dk (λb=>∃a,s.qa5=V a/\a.block=b) F N->(∀a,C.qa5=V a->(∃a',s.qa5=V a'/\a'.block=a.block)\/F a.block=I)->Q C.v N):
  aG P (Builtin.append_ #[t,t] ty #[s.v,x.v]) F Q:=by
 by_cases X:x.len=0
 ·have J:news=[]:=V5 (by rw [M.len,X,V9]);refine oZ ht K hz L ho M X (by rw [X] at g;exact g) (by omega) ?_;refine h s F E (by rw [J,yn];exact ho) (by omega) A (dk.refl _ _) (λa D=> .inl ⟨a,D,rfl⟩)
 ·refine tH ht K hz L R ho M (by omega) a1 g H ?_;rintro C N b ob rfl W a0 r w;have O:F0 b=I:=by
   rcases w with ⟨a,D,rfl⟩|w
   ·exact A a D
   ·exact aT E w
  refine h C _ (λy o G=> ?_) W a0 (λa D=>by rw [r a D];exact O) (λy o G M=> ?_) (λa D=> ?_)
  ·rw [aw _ _ (λe=>by rw [e,O] at G;cases G)];exact E _ _ G
  ·rw [aw]
   ·exact G
   ·rintro rfl;rcases w with w|w
    ·exact M w
    ·rw [w] at G;cases G
  ·rw [r a D];exact w
theorem ai {F:PH} {b e:Nat} {c:Array Value} {fr:Nat×Nat} (h:F b=V (Y c e fr)):F.row (ou b 0 I) c:=by intro i hi;rw [aI,av h];simp
theorem aB {F0 F:PH} {b:Nat} {o:Obj} (h:F0.le F) (r:F0 b=I):F0.le (F.set b o):=λy w g=>by rw [aw _ _ (λe=>by rw [e,r] at g;cases g)];exact h _ _ g
theorem aj.upon {P:Program} {f:FuncId} {args:Array Value} {F F2:PH} {R:Value->PH->Prop} (h:aj P f args F R) (r:F.le F2):
  aj P f args F2 λv w=>∃G,R v G/\G.le w/\∀b o,F b=I->F2 b=V o->w b=V o/\G b=I:=by
 have e:F2=F.and (λb=>if (F b).isNone then F2 b else I):=by
  funext b;cases hf:F b with
  |some o=>rw [PH.and_left hf];exact r b o hf
  |none=>rw [PH.and_right hf];simp [hf]
 have g:=h.beside (H:=λb=>if (F b).isNone then F2 b else I) (λb o g=>by
  cases hf:F b with
  |some E=>simp [hf] at g
  |none=>rfl)
 rw [<- e] at g;refine g.mono ?_;rintro v w ⟨G,D,rfl,hd⟩;refine ⟨G,D,λb o g=>PH.and_left g,λb o g C=> ?_⟩;have B:(λb=>if (F b).isNone then F2 b else I) b=V o:=by simp [g,C]
 have A:=hd b o B;exact ⟨(PH.and_right A).trans B,A⟩
inductive Tr where
 |qa6 (b:Bool)
 |qa7 (v:Nat) (l h:Tr)
deriving DecidableEq
abbrev Cf:=Nat->Bool
def Cf.set (c:Cf) (v:Nat) (b:Bool):Cf:=λi=>if i=v then b else c i
namespace Tr
def top:Tr->Nat
 |qa6 _=>64
 |qa7 v _ _=>v
def ev:Tr->Cf->Bool
 |qa6 b,_=>b
 |qa7 v l h,c=>if c v=mY then h.ev c else l.ev c
def ok:Tr->Prop
 |qa6 _=>True
 |qa7 v l h=>v<64/\v<l.top/\v<h.top/\l≠h/\l.ok/\h.ok
def sz:Tr->Nat
 |qa6 _=>1
 |qa7 _ l h=>l.sz+h.sz+1
def mk (v:Nat) (l h:Tr):Tr:=if l=h then l else qa7 v l h
def lo (v:Nat):Tr->Tr
 |qa6 b=>qa6 b
 |qa7 w l h=>if w=v then l else qa7 w l h
def hi (v:Nat):Tr->Tr
 |qa6 b=>qa6 b
 |qa7 w l h=>if w=v then h else qa7 w l h
def isL:Tr->Bool
 |qa6 _=>mY
 |qa7 _ _ _=>mz
theorem tI {t:Tr} (h:t.ok) (g:t.isL=mz):t.top<64:=by
 cases t with
 |qa6 b=>cases g
 |qa7 v l r=>exact h.1
theorem lu:∀(t:Tr),0<t.sz
 |qa6 _=>Nat.one_pos
 |qa7 _ _ _=>Nat.succ_pos _
theorem tJ:∀(t:Tr),t.ok->∀(c d:Cf),(∀i,t.top<=i->c i=d i)->t.ev c=t.ev d
 |qa6 _,_,_,_,_=>rfl
 |qa7 v l h,⟨_,h1,h2,_,h4,h5⟩,c,d,hc=>by simp only [ev];rw [hc v (qX _),tJ l h4 c d (λi hi=>hc i (by simp only [top];omega)),tJ h h5 c d (λi hi=>hc i (by simp only [top];omega))]
theorem lw {t:Tr} (h:t.ok) {v:Nat} (g:v<t.top) (c:Cf) (b:Bool):t.ev (c.set v b)=t.ev c:=
 tJ t h _ _ λi hi=>by unfold Cf.set;rw [Υ (by omega)]
theorem qfr:∀(n:Nat) (a b:Tr),a.sz+b.sz<=n->a.ok->b.ok->(∀c,a.ev c=b.ev c)->a=b:=by
 intro n;induction n with
 |zero=>intro a b A;have:=lu a;omega
 |succ n ih=>
  have key:∀(v:Nat) (l h b:Tr),(qa7 v l h).sz+b.sz<=n+1->(qa7 v l h).ok->b.ok->v<b.top->(∀c,(qa7 v l h).ev c=b.ev c)->False:=by
   rintro v l h b A ⟨Q,B,F,h3,L,J⟩ r hv g;have hp:=lu b;simp only [sz] at A;refine h3 (ih l h (by omega) L J λc=> ?_);have C:=g (c.set v mz);have D:=g (c.set v mY);rw [lw r hv] at C D;have P:(qa7 v l h).ev (c.set v mz)=l.ev c:=by simp only [ev];rw [Υ (by simp [Cf.set]),lw L B]
   have f2:(qa7 v l h).ev (c.set v mY)=h.ev c:=by simp only [ev];rw [Χ (by simp [Cf.set]),lw J F]
   rw [<- P,<- f2,C,D]
  intro a b A E r g;cases a with
  |qa6 x=>
   cases b with
   |qa6 y=>exact congrArg qa6 (g (λ_=>mz))
   |qa7 v l h=>exact (key v l h (qa6 x) (by omega) r trivial r.1 (λc=>(g c).symm)).elim
  |qa7 v l h=>
   by_cases B:v<b.top
   ·exact (key v l h b A E r B g).elim
   cases b with
   |qa6 y=>exact (B E.1).elim
   |qa7 w H G=>
    simp only [top] at B;by_cases F:w<v
    ·exact (key w H G (qa7 v l h) (by omega) r E F (λc=>(g c).symm)).elim
    obtain rfl:v=w:=by omega
    obtain ⟨Q,R,W,a3,N,M⟩:=E;obtain ⟨_,X,b2,b3,O,K⟩:=r;simp only [sz] at A;have C:l=H:=ih l H (by omega) N O λc=>by have:=g (c.set v mz);simp only [ev] at this;rw [Υ (by simp [Cf.set]),Υ (by simp [Cf.set]),lw N R,lw O X] at this;exact this
    have D:h=G:=ih h G (by omega) M K λc=>by have:=g (c.set v mY);simp only [ev] at this;rw [Χ (by simp [Cf.set]),Χ (by simp [Cf.set]),lw M W,lw K b2] at this;exact this
    rw [C,D]
theorem eq_of_ev {a b:Tr} (r:a.ok) (h:b.ok) (g:∀c,a.ev c=b.ev c):a=b:=qfr _ a b (qX _) r h g
theorem Fz {v:Nat} {l h:Tr} (B:v<64) (A:v<l.top) (w:v<h.top) (g:l.ok) (C:h.ok):(mk v l h).ok:=by
 unfold mk;split
 ·exact g
 ·rename_i r;exact ⟨B,A,w,r,g,C⟩
theorem Tt {v:Nat} {l h:Tr} (g:v<l.top):v<=(mk v l h).top:=by
 unfold mk;split
 ·omega
 ·exact qX _
theorem Q1 (v:Nat) (l h:Tr) (c:Cf):(mk v l h).ev c=if c v=mY then h.ev c else l.ev c:=by
 unfold mk;split
 ·rename_i e;subst e;simp
 ·rfl
theorem cx {t:Tr} (h:t.ok) {v:Nat} (F:v<=t.top):(lo v t).ok/\(v<64->v<(lo v t).top)/\(lo v t).sz<=t.sz/\(t.top=v->t.isL=mz->(lo v t).sz<t.sz)/\
  ∀c,c v=mz->(lo v t).ev c=t.ev c:=by
 cases t with
 |qa6 b=>exact ⟨trivial,λh=>h,qX _,λ_ h=>(by cases h),λ_ _=>rfl⟩
 |qa7 w l r=>
  obtain ⟨D,g,C,G,A,E⟩:=h;simp only [lo];split
  ·rename_i e;subst e;refine ⟨A,λ_=>g,by simp only [sz];omega,λ_ _=>by simp only [sz];omega,λc H=> ?_⟩;simp [ev,H]
  ·rename_i e;refine ⟨⟨D,g,C,G,A,E⟩,λ_=> ?_,qX _,λB=> ?_,λ_ _=>rfl⟩
   ·simp only [top] at F ⊢;omega
   ·simp only [top] at B;omega
theorem cy {t:Tr} (h:t.ok) {v:Nat} (E:v<=t.top):(hi v t).ok/\(v<64->v<(hi v t).top)/\(hi v t).sz<=t.sz/\(t.top=v->t.isL=mz->(hi v t).sz<t.sz)/\
  ∀c,c v=mY->(hi v t).ev c=t.ev c:=by
 cases t with
 |qa6 b=>exact ⟨trivial,λh=>h,qX _,λ_ h=>(by cases h),λ_ _=>rfl⟩
 |qa7 w l r=>
  obtain ⟨C,D,g,F,H,A⟩:=h;simp only [hi];split
  ·rename_i e;subst e;refine ⟨A,λ_=>g,by simp only [sz];omega,λ_ _=>by simp only [sz];omega,λc G=> ?_⟩;simp [ev,G]
  ·rename_i e;refine ⟨⟨C,D,g,F,H,A⟩,λ_=> ?_,qX _,λB=> ?_,λ_ _=>rfl⟩
   ·simp only [top] at E ⊢;omega
   ·simp only [top] at B;omega
abbrev Wq:=Bool->Bool->Bool->Bool
def aX (a b d:Tr):Nat:=min (min a.top b.top) d.top
theorem qfs (o:Wq):∀(n:Nat) (a b d:Tr),a.sz+b.sz+d.sz<=n->a.ok->b.ok->d.ok->
  ∃t:Tr,t.ok/\aX a b d<=t.top/\∀c,t.ev c=o (a.ev c) (b.ev c) (d.ev c):=by
 intro n;induction n with
 |zero=>intro a b d hn;have:=lu a;omega
 |succ n ih=>
  intro a b d hn W hb hd;by_cases h:aX a b d<64
  ·have D:aX a b d<=a.top:=by unfold aX;omega
   have C:aX a b d<=b.top:=by unfold aX;omega
   have E:aX a b d<=d.top:=by unfold aX;omega
   have g:aX a b d=a.top\/aX a b d=b.top\/aX a b d=d.top:=by unfold aX;omega
   revert g;revert D C E h;generalize aX a b d=v;intro h D C E g;have A:∀{t:Tr},v=t.top->t.isL=mz:=λ{t} e=>by
    cases t with
    |qa6 b=>simp only [top] at e;omega
    |qa7 _ _ _=>rfl
   obtain ⟨N,J,b8,a9,b4⟩:=cx W D;obtain ⟨a3,a6,b9,b1,a1⟩:=cx hb C;obtain ⟨a0,a8,c2,L,O⟩:=cx hd E;obtain ⟨b2,K,b6,b3,a4⟩:=cy W D;obtain ⟨a5,X,b7,a2,H⟩:=cy hb C;obtain ⟨R,Q,b5,a7,M⟩:=cy hd E;have P:(lo v a).sz+(lo v b).sz+(lo v d).sz<=n:=by
    rcases g with e|e|e
    ·have:=a9 e.symm (A e);omega
    ·have:=b1 e.symm (A e);omega
    ·have:=L e.symm (A e);omega
   have G:(hi v a).sz+(hi v b).sz+(hi v d).sz<=n:=by
    rcases g with e|e|e
    ·have:=b3 e.symm (A e);omega
    ·have:=a2 e.symm (A e);omega
    ·have:=a7 e.symm (A e);omega
   obtain ⟨tl,l1,l2,l3⟩:=ih _ _ _ P N a3 a0;obtain ⟨th,h1,h2,h3⟩:=ih _ _ _ G b2 a5 R;have B:v<tl.top:=by have:=J h;have:=a6 h;have:=a8 h;unfold aX at l2;omega
   have b0:v<th.top:=by have:=K h;have:=X h;have:=Q h;unfold aX at h2;omega
   refine ⟨mk v tl th,Fz h B b0 l1 h1,Tt B,λc=> ?_⟩;rw [Q1];split
   ·rename_i r;rw [h3,a4 c r,H c r,M c r]
   ·rename_i r;have r:c v=mz:=by simpa using r
    rw [l3,b4 c r,a1 c r,O c r]
  ·have w:∀{t:Tr},t.ok->64<=t.top->∃b,t=qa6 b:=λ{t} ht F=>by
    cases t with
    |qa6 b=>exact ⟨b,rfl⟩
    |qa7 _ _ _=>have:=ht.1;simp only [top] at F;omega
   unfold aX at h;obtain ⟨x,rfl⟩:=w W (by omega);obtain ⟨y,rfl⟩:=w hb (by omega);obtain ⟨z,rfl⟩:=w hd (by omega);exact ⟨qa6 (o x y z),trivial,by simp [aX,top],λc=>rfl⟩
noncomputable def ZI (f:Cf->Bool):Tr:=open Classical in if h:∃t:Tr,t.ok/\∀c,t.ev c=f c then h.choose else qa6 mz
theorem xR {f:Cf->Bool} {t:Tr} (h:t.ok) (r:∀c,t.ev c=f c):ZI f=t:=by have g:∃t:Tr,t.ok/\∀c,t.ev c=f c:=⟨t,h,r⟩;unfold ZI;rw [dif_pos g];exact eq_of_ev g.choose_spec.1 h λc=>(g.choose_spec.2 c).trans (r c).symm
noncomputable def ap (o:Wq) (a b d:Tr):Tr:=ZI λc=>o (a.ev c) (b.ev c) (d.ev c)
section
variable {o:Wq} {a b d:Tr} (ha:a.ok) (hb:b.ok) (hd:d.ok)
include ha hb hd
theorem fg:(ap o a b d).ok/\aX a b d<=(ap o a b d).top/\∀c,(ap o a b d).ev c=o (a.ev c) (b.ev c) (d.ev c):=by obtain ⟨t,h,r,g⟩:=qfs o _ a b d (qX _) ha hb hd;have:ap o a b d=t:=xR h g;rw [this];exact ⟨h,r,g⟩
theorem LA:(ap o a b d).ok:=(fg ha hb hd).1
theorem xS (g:aX a b d<64):ap o a b d=mk (aX a b d) (ap o (lo (aX a b d) a) (lo (aX a b d) b) (lo (aX a b d) d)) (ap o (hi (aX a b d) a) (hi (aX a b d) b) (hi (aX a b d) d)):=by
 have w:aX a b d<=a.top:=by unfold aX;omega
 have r:aX a b d<=b.top:=by unfold aX;omega
 have A:aX a b d<=d.top:=by unfold aX;omega
 revert w r A g;generalize aX a b d=v;intro g w r A;obtain ⟨G,C,a7,a9,a1⟩:=cx ha w;obtain ⟨O,R,b1,b0,N⟩:=cx hb r;obtain ⟨M,W,b2,a2,H⟩:=cx hd A;obtain ⟨a0,D,a4,b3,P⟩:=cy ha w;obtain ⟨Q,L,a5,a6,B⟩:=cy hb r;obtain ⟨K,J,a3,a8,F⟩:=cy hd A;obtain ⟨l1,l2,l3⟩:=fg (o:=o) G O M;obtain ⟨h1,h2,h3⟩:=fg (o:=o) a0 Q K;have E:v<(ap o (lo v a) (lo v b) (lo v d)).top:=by have:=C g;have:=R g;have:=W g;unfold aX at l2;omega
 have X:v<(ap o (hi v a) (hi v b) (hi v d)).top:=by have:=D g;have:=L g;have:=J g;unfold aX at h2;omega
 refine xR (Fz g E X l1 h1) λc=> ?_;rw [Q1];split
 ·rename_i h;rw [h3,P c h,B c h,F c h]
 ·rename_i h;have h:c v=mz:=by simpa using h
  rw [l3,a1 c h,N c h,H c h]
end
theorem nr (o:Wq) (x y z:Bool):ap o (qa6 x) (qa6 y) (qa6 z)=qa6 (o x y z):=xR trivial λ_=>rfl
theorem gr {t:Tr} (h:t.ok) (g:64<=t.top):∃b,t=qa6 b:=by
 cases t with
 |qa6 b=>exact ⟨b,rfl⟩
 |qa7 _ _ _=>have:=h.1;simp only [top] at g;omega
end Tr
open Tr
structure Br where
 v:Int
 l:Int
 h:Int
deriving DecidableEq
def inn (S:List Tr) (t:Tr):Prop:=t.isL=mY\/t∈S
def num (S:List Tr):Tr->Nat
 |qa6 b=>if b then 1 else 0
 |qa7 v l h=>S.idxOf (qa7 v l h)+2
def br (S:List Tr):Tr->Br
 |qa6 _=>⟨0,0,0⟩
 |qa7 v l h=>⟨(v:Int),(num S l:Int),(num S h:Int)⟩
def brs (S:List Tr):List Br:=S.map (br S)
inductive Cl:List Tr->Prop
 |nil:Cl []
 |snoc {S:List Tr} {v:Nat} {l h:Tr}:Cl S->inn S l->inn S h->(qa7 v l h).ok->qa7 v l h ∉ S->Cl (S++[qa7 v l h])
theorem bY {S X:List Tr} {t:Tr} (h:inn S t):inn (S++X) t:=h.imp id λh=>Zg X h
theorem fU (S:List Tr) (b:Bool):inn S (qa6 b):=.inl rfl
theorem cC {S:List Tr} {t:Tr} (h:inn S t) (g:t.isL=mz):t∈S:=h.resolve_left (by rw [g];exact YK)
theorem bN {S X:List Tr} {t:Tr} (h:inn S t):num (S++X) t=num S t:=by
 cases t with
 |qa6 b=>rfl
 |qa7 v l r=>have g:=cC h rfl;simp only [num,List.idxOf_append,g,if_true]
namespace Cl
theorem mem {S:List Tr} (h:Cl S):∀t∈S,t.ok/\∃v l r,t=qa7 v l r/\inn S l/\inn S r:=by
 induction h with
 |nil=>intro t g;cases g
 | @snoc S v l r L E F B K ih=>
  intro t g;rcases vd.1 g with g|g
  ·obtain ⟨G,D,w,C,A,H,J⟩:=ih t g;exact ⟨G,D,w,C,A,bY H,bY J⟩
  ·obtain rfl:=vy.1 g;exact ⟨B,v,l,r,rfl,bY E,bY F⟩
theorem nodup {S:List Tr} (h:Cl S):S.Nodup:=by
 induction h with
 |nil=>exact List.nodup_nil
 | @snoc S v l r D E C B w ih=>rw [Vw];refine ⟨ih,by simp,?_⟩;intro a A b g;rw [vy] at g;subst g;rintro rfl;exact w A
theorem inn_ok {S:List Tr} (h:Cl S) {t:Tr} (g:inn S t):t.ok:=by
 cases t with
 |qa6 b=>trivial
 |qa7 v l r=>exact (h.mem _ (cC g rfl)).1
theorem inn_kids {S:List Tr} (h:Cl S) {v:Nat} {l r:Tr} (w:inn S (qa7 v l r)):inn S l/\inn S r:=by obtain ⟨_,D,B,C,e,g,A⟩:=h.mem _ (cC w rfl);cases e;exact ⟨g,A⟩
theorem inn_lo {S:List Tr} (h:Cl S) {t:Tr} (g:inn S t) (v:Nat):inn S (lo v t):=by
 cases t with
 |qa6 b=>exact g
 |qa7 w l r=>
  simp only [lo];split
  ·exact (h.inn_kids g).1
  ·exact g
theorem inn_hi {S:List Tr} (h:Cl S) {t:Tr} (g:inn S t) (v:Nat):inn S (hi v t):=by
 cases t with
 |qa6 b=>exact g
 |qa7 w l r=>
  simp only [hi];split
  ·exact (h.inn_kids g).2
  ·exact g
end Cl
theorem dQ {S:List Tr} {t:Tr} (h:inn S t):num S t<=S.length+1:=by
 cases t with
 |qa6 b=>simp only [num];split<;>omega
 |qa7 v l r=>have:=List.idxOf_lt_length_of_mem (cC h rfl);simp only [num];omega
theorem cY {S:List Tr} {t:Tr} (h:t.isL=mz):2<=num S t:=by
 cases t with
 |qa6 b=>cases h
 |qa7 v l r=>simp only [num];omega
theorem qK {S:List Tr} {t:Tr} (h:num S t<2):t.isL=mY:=by
 cases t with
 |qa6 b=>rfl
 |qa7 v l r=>simp only [num] at h;omega
theorem cK (S:List Tr) (b:Bool):num S (qa6 b)<=1:=by simp only [num];split<;>omega
theorem eA {S:List Tr} {t:Tr} (h:t∈S) (w:t.isL=mz):S[num S t - 2]? =V t:=by
 cases t with
 |qa6 b=>cases w
 |qa7 v l r=>have g:=List.idxOf_lt_length_of_mem h;simp only [num,Nat.add_sub_cancel];rw [N5 g,List.getElem_idxOf]
theorem cN {S:List Tr} {t u:Tr} (A:inn S t) (w:inn S u) (h:num S t=num S u):t=u:=by
 cases ht':t.isL with
 |true=>
  cases hu':u.isL with
  |true=>
   cases t with
   |qa7 _ _ _=>cases ht'
   |qa6 a=>
    cases u with
    |qa7 _ _ _=>cases hu'
    |qa6 b=>simp only [num] at h;cases a<;>cases b<;>simp at h ⊢
  |false=>
   have g:=cY (S:=S) hu';cases t with
   |qa7 _ _ _=>cases ht'
   |qa6 a=>have r:num S (qa6 a)<=1:=cK S a;omega
 |false=>
  cases hu':u.isL with
  |true=>
   have g:=cY (S:=S) ht';cases u with
   |qa7 _ _ _=>cases hu'
   |qa6 a=>have r:num S (qa6 a)<=1:=cK S a;omega
  |false=>have g:=eA (cC A ht') ht';have r:=eA (cC w hu') hu';rw [h,r] at g;exact (yC g).symm
theorem dR {S:List Tr} (w:Cl S) {k:Nat} {t:Tr} (h:S[k]? =V t):num S t=k+2:=by
 have B:k<S.length:=(N6.1 h).1;have g:t∈S:=vQ h;obtain ⟨_,v,l,r,rfl,_⟩:=w.mem t g;have C:=List.idxOf_lt_length_of_mem g;have A:S[S.idxOf (qa7 v l r)]=S[k]:=by rw [List.getElem_idxOf];exact (N6.1 h).2.symm
 have:=(List.getElem_inj w.nodup).1 A;simp only [num];omega
def tr (S:List Tr) (n:Nat):Tr:=
 if n=0 then qa6 mz else if n=1 then qa6 mY else S.getD (n - 2) (qa6 mz)
theorem gE {S:List Tr} {n:Nat} (h:n<=S.length+1):inn S (tr S n):=by
 unfold tr;split
 ·exact fU _ _
 ·split
  ·exact fU _ _
  ·refine .inr ?_;rw [Q0,N5 (by omega)];exact U9 _
theorem fV {S:List Tr} (r:Cl S) {n:Nat} (h:n<=S.length+1):num S (tr S n)=n:=by
 unfold tr;split
 ·rename_i e;subst e;rfl
 ·split
  ·rename_i e;subst e;rfl
  ·have g:n - 2<S.length:=by omega
   have:=dR r (k:=n - 2) (t:=S[n - 2]) (N5 g);rw [Q0,N5 g];simp only [Option.getD_some];omega
theorem ow {S:List Tr} (g:Cl S) {t:Tr} (h:inn S t):tr S (num S t)=t:=
 cN (gE (dQ h)) h (fV g (dQ h))
theorem GT {S X:List Tr} (A:Cl S) {t:Tr} (h:t∈S):br (S++X) t=br S t:=by obtain ⟨_,v,l,r,rfl,w,g⟩:=A.mem t h;simp only [br,bN w,bN g]
theorem tK {S X:List Tr} (h:Cl S):brs (S++X)=brs S++X.map (br (S++X)):=by unfold brs;rw [yT];congr 1;exact List.map_congr_left λt g=>GT h g
theorem eB {S:List Tr} (h:Cl S) {v:Nat} {l r:Tr} (w:inn S l) (g:inn S r):brs (S++[qa7 v l r])=brs S++[⟨(v:Int),(num S l:Int),(num S r:Int)⟩]:=by rw [tK h];simp only [xw,List.map_nil,br,bN w,bN g]
theorem aO (S:List Tr):(brs S).length=S.length:=by simp [brs]
theorem jT {S:List Tr} {k:Nat} {t:Tr} (h:S[k]? =V t):(brs S)[k]? =V (br S t):=by simp [brs,h]
theorem LB {S:List Tr} (A:Cl S) {t u:Tr} (D:t∈S) (E:u∈S) (h:br S t=br S u):t=u:=by obtain ⟨_,v,l,r,rfl,F,C⟩:=A.mem t D;obtain ⟨_,B,G,J,rfl,w,g⟩:=A.mem u E;simp only [br,Br.mk.injEq] at h;obtain ⟨K,H,L⟩:=h;rw [cN F w (by omega),cN C g (by omega),show v=B by omega]
theorem qL {S T:List Tr} (B:Cl S):Cl T->brs S=brs T->S=T:=by
 intro A;induction B generalizing T with
 |nil=>
  intro h;cases T with
  |nil=>rfl
  |cons a b=>have:=congrArg List.length h;simp [brs] at this
 | @snoc S v l r B E D O N ih=>
  intro h;cases A with
  |nil=>have:=congrArg List.length h;simp [brs] at this
  | @snoc T F M P A g w H G=>rw [eB B E D,eB A g w] at h;obtain ⟨J,C⟩:=List.append_inj' h rfl;obtain rfl:=ih A J;simp only [List.cons.injEq,Br.mk.injEq,and_true] at C;obtain ⟨Q,L,K⟩:=C;rw [cN E g (by omega),cN D w (by omega),show v=F by omega]
def tY:Tr->List Tr->List Tr
 |qa6 _,S=>S
 |qa7 v l h,S=>if qa7 v l h∈S then S else tY h (tY l S)++[qa7 v l h]
theorem gu {S:List Tr} {t:Tr} (h:inn S t):tY t S=S:=by
 cases t with
 |qa6 b=>rfl
 |qa7 v l r=>unfold tY;rw [Χ (cC h rfl)]
theorem bk:∀(t:Tr) (S:List Tr),t.ok->Cl S->Cl (tY t S)/\inn (tY t S) t/\(∃X,tY t S=S++X/\∀x∈X,x.sz<=t.sz)
 |qa6 b,S,_,hS=>⟨hS,fU _ _,[],by simp [tY],λx h=>by cases h⟩
 |qa7 v l r,S,hk,hS=>by
  unfold tY;split
  ·rename_i A;exact ⟨hS,.inr A,[],by simp,λx h=>by cases h⟩
  ·rename_i A;obtain ⟨L,H,X,D,E⟩:=bk l S hk.2.2.2.2.1 hS;obtain ⟨J,G,K,B,C⟩:=bk r (tY l S) hk.2.2.2.2.2 L;have F:qa7 v l r ∉ tY r (tY l S):=by
    rw [B,D];intro g;rcases vd.1 g with g|g
    ·rcases vd.1 g with g|g
     ·exact A g
     ·have:=E _ g;simp only [sz] at this;omega
    ·have:=C _ g;simp only [sz] at this;omega
   refine ⟨.snoc J (by rw [B];exact bY H) G hk F,.inr (by simp),X++K++[qa7 v l r],by rw [B,D];simp,λx w=> ?_⟩;simp only [vd,vy,or_assoc] at w;rcases w with w|w|w
   ·have:=E x w;simp only [sz];omega
   ·have:=C x w;simp only [sz];omega
   ·rw [w];exact qX _
def aU (t:Tr):List Tr:=tY t []
theorem bv {t:Tr} (h:t.ok):Cl (aU t):=(bk t [] h .nil).1
theorem bH {t:Tr} (h:t.ok):inn (aU t) t:=(bk t [] h .nil).2.1
abbrev vE:=List Br×Int
def pg (t:Tr):vE:=(brs (aU t),(num (aU t) t:Int))
theorem xT {t u:Tr} (g:t.ok) (w:u.ok) (h:pg t=pg u):t=u:=by unfold pg at h;simp only [Yq] at h;obtain ⟨B,A⟩:=h;have r:=qL (bv g) (bv w) B;rw [<- r] at A;refine cN (bH g) ?_ (by omega);rw [r];exact bH w
def Xp:Tr->Nat
 |qa6 _=>0
 |qa7 _ l h=>Xp l+Xp h+1
theorem ly:∀(t:Tr) (S:List Tr),(tY t S).length<=S.length+Xp t
 |qa6 _,_=>qX _
 |qa7 v l r,S=>by
  unfold tY;split
  ·omega
  ·have g:=ly l S;have h:=ly r (tY l S);simp only [tT,Uc,Xp];omega
theorem pc (t:Tr):(aU t).length<=Xp t:=by have:=ly t [];simpa [aU] using this
open Go.Proofs.Tryz
theorem X5:vA prog 3=V (1,8):=by kernel_rfl
theorem sz9:vA prog 9=V (1,16):=by kernel_rfl
theorem aaH:vA prog 30=V (1,24):=by kernel_rfl
theorem aaI:vA prog 33=V (2,32):=by kernel_rfl
theorem aaJ:vA prog 41=V (1,8):=by kernel_rfl
theorem aaK:vA prog 47=V (4,32):=by kernel_rfl
theorem aaL:vA prog 64=V (13,160):=by kernel_rfl
theorem aaM:vA prog 66=V (3,24):=by kernel_rfl
theorem aaN:vA prog 80=V (2,24):=by kernel_rfl
theorem Q2:vA prog 130=V (2,16):=by kernel_rfl
theorem qft:vA prog 137=V (4,56):=by kernel_rfl
theorem qfu:vA prog 140=V (5,56):=by kernel_rfl
theorem qfv:vA prog 166=V (7,112):=by kernel_rfl
theorem FA:vA prog 201=V (3,24):=by kernel_rfl
theorem qfw:vA prog 223=V (2,32):=by kernel_rfl
theorem qfx:vA prog 233=V (9,104):=by kernel_rfl
theorem qfy:vA prog 236=V (4,64):=by kernel_rfl
theorem Q3:vA prog 313=V (3,24):=by kernel_rfl
theorem X7:bu prog 3=V (Value.int .i64 0):=by kernel_rfl
theorem zr9:bu prog 9=V (Value.string ⟨#[]⟩):=by kernel_rfl
theorem aaO:bu prog 30=V (Value.slice I 0 0):=by kernel_rfl
theorem Tu:bu prog 33=V (Value.agg (#[Value.slice I 0 0,Value.int .i64 0])):=by kernel_rfl
theorem aaP:bu prog 41=V (Value.int .u64 0):=by kernel_rfl
theorem aaQ:bu prog 47=V (Value.agg (#[Value.int .i64 0,Value.int .i64 0,Value.int .i64 0,Value.int .i64 0])):=by kernel_rfl
theorem aaR:bu prog 64=V (Value.agg (#[Value.string ⟨#[]⟩,Value.int .i64 0,Value.slice I 0 0,Value.slice I 0 0,Value.int .i64 0,Value.bool mz,Value.int .i64 0,Value.slice I 0 0,Value.bool mz,Value.int .i64 0,Value.int .i64 0,Value.int .i64 0,Value.int .i64 0])):=by kernel_rfl
theorem aaS:bu prog 66=V (Value.agg (#[Value.int .i64 0,Value.int .i64 0,Value.int .i64 0])):=by kernel_rfl
theorem aaT:bu prog 80=V (Value.agg (#[Value.string ⟨#[]⟩,Value.int .i64 0])):=by kernel_rfl
theorem Q4:bu prog 130=V (Value.agg (#[Value.bool mz,Value.int .i64 0])):=by kernel_rfl
theorem qfz:bu prog 137=V (Value.agg (#[Value.int .i64 0,Value.int .i64 0,Value.string ⟨#[]⟩,Value.slice I 0 0])):=by kernel_rfl
theorem qfA:bu prog 140=V (Value.agg (#[Value.int .i64 0,Value.int .i64 0,Value.int .i64 0,Value.bool mz,Value.slice I 0 0])):=by kernel_rfl
theorem qfB:bu prog 166=V (Value.agg (#[Value.string ⟨#[]⟩,Value.int .i64 0,Value.string ⟨#[]⟩,Value.slice I 0 0,Value.string ⟨#[]⟩,Value.slice I 0 0,Value.int .i64 0])):=by kernel_rfl
theorem FB:bu prog 201=V (Value.agg (#[Value.int .i64 0,Value.int .i64 0,Value.int .i64 0])):=by kernel_rfl
theorem qfC:bu prog 223=V (Value.agg (#[Value.int .i64 0,Value.slice I 0 0])):=by kernel_rfl
theorem qfD:bu prog 233=V (Value.agg (#[Value.int .i64 0,Value.int .i64 0,Value.int .i64 0,Value.int .i64 0,Value.int .i64 0,Value.int .i64 0,Value.slice I 0 0,Value.slice I 0 0,Value.int .i64 0])):=by kernel_rfl
theorem qfE:bu prog 236=V (Value.agg (#[Value.slice I 0 0,Value.int .i64 0,Value.slice I 0 0,Value.int .i64 0])):=by kernel_rfl
theorem Q5:bu prog 313=V (Value.agg (#[Value.int .i64 0,Value.int .i64 0,Value.int .i64 0])):=by kernel_rfl
section
variable {P:Program} {n:Nat} {Q:Exit->En->PH->Prop} {E:En} {F:PH} {ops:Array Oper} {l:List Oper} {d:Tmp} {op:Op} {ty:TypeId} {pos:String} {aft:Array Edge} {gd:Option (Nat×Bool)}
theorem aaU {L:Func} {r O A N:ResultVar} {v M G W:Value} (h:L.results= #[r,O,A,N]) (R:gX P E F r v) (D:gX P E F O M) (g:gX P E F A G) (C:gX P E F N W):oU P L E F (.tuple #[v,M,G,W]):=λe w K st B=>by have k:=dP R st B;have k':=dP D st B;have H:=dP g st B;have k3:=dP C st B;clear B R D g C;rcases k with ⟨t,rfl,h1⟩|⟨x,t,a,rfl,h1,h2⟩<;>rcases k' with ⟨t',rfl,h3⟩|⟨x',t',a',rfl,h3,h4⟩<;>rcases H with ⟨J,rfl,h5⟩|⟨a0,J,a1,rfl,h5,h6⟩<;>rcases k3 with ⟨t3,rfl,X⟩|⟨x3,t3,a3,rfl,X,h8⟩<;>simp [results,asAddr, *]
end
section
variable {P:Program} {F:PH} {E:En} {o:Oper} {x y:Operand} {t t':TypeId}
theorem Tv {c d:ByteArray} (g:o.op=.binOp .add t x y t') (w:ev E x=.string c) (A:ev E y=.string d) (h:c.size+d.size<=9223372036854775807):RD P E F o (.string (c++d)):=by
 have e:IntKind.i64.max=9223372036854775807:=by decide
 have r:¬(((c.size+d.size:Nat):Int)>IntKind.i64.max):=by rw [e];omega
 simp only [RD,execOp,g,w,A,am];refine ⟨.string (c++d),⟨(),bj rfl,?_⟩,rfl⟩;show pn P (Op.stringOp .add c d) F _;unfold Op.stringOp;simp only [Υ r];rfl
theorem Tw {c d:ByteArray} (g:o.op=.binOp .lss t x y t') (h:ev E x=.string c) (r:ev E y=.string d):RD P E F o (.bool (Op.bytesLess c.toList d.toList)):=by simp only [RD,execOp,g,h,r,am];exact ⟨_,⟨(),bj rfl,rfl⟩,rfl⟩
theorem Tx {c d:ByteArray} (g:o.op=.binOp .geq t x y t') (h:ev E x=.string c) (r:ev E y=.string d):RD P E F o (.bool (!Op.bytesLess c.toList d.toList)):=by simp only [RD,execOp,g,h,r,am];exact ⟨_,⟨(),bj rfl,rfl⟩,rfl⟩
theorem LC {e:TypeId} {v:Value} {s:ByteArray} (r:o.op=.convert t t' x) (C:ev E x=v) (w:P.underlying t=V (.slice e)) (g:P.underlying t'=V .string) (B:P.underlying e=V (.int .u8))
  (A:∃b l c,v=.slice b l c) (h:pn P (Conv.bytesToString v) F (.string s)):RD P E F o (.string s):=by
 obtain ⟨b,l,c,rfl⟩:=A;simp only [RD,execOp,r,C,am,convert];refine ⟨_,⟨_,(az w _).2 rfl,_,(az g _).2 rfl,?_⟩,rfl⟩;cases b<;>(simp only [am];exact ⟨_,(az B _).2 rfl,h⟩)
variable {K:En->PH->Prop} {d:Tmp} {ty:TypeId} {pos:String} {aft:Array Edge} {gd:Option (Nat×Bool)}
theorem LD {m:Option Nat} {r:Value} (g:o.op=.call {callee:=.builtin .len,args:= #[x],argTypes:= #[t]}) (w:ev E x=.map m) (h:pn P (Builtin.len_ #[t] o.type #[.map m]) F r):RD P E F o r:=by simp [RD,execOp,g,resolve,invoke,builtin,w];exact h
theorem N8 {v r:Value} (g:o.op=.entry x) (w:ev E x=v) (h:pn P (Instr.entry v) F r):RD P E F o r:=by simp only [RD,execOp,g,w,am];exact ⟨_,h,rfl⟩
end
abbrev VR:=Value->PH->Prop
abbrev qW (F:PH) (a:Addr) (v:Value) (K:PH->Prop):Prop:=
 ∃c e,F a.block=V (Y c e (0,0))/\a.spot=I/\a.off<c.size/\xG (F.set a.block (Y (c.setIfInBounds a.off v) e)) K
abbrev aA (F:PH) (a:Addr) (n:Nat) (v:Array Value) (K:PH->Prop):Prop:=
 v.size=n/\(∀x∈v.toList,ak x)/\∃c e,F a.block=V (Y c e (0,0))/\a.spot=I/\a.off+n<=c.size/\xG (F.set a.block (Y (wr c a.off v.toList) e)) K
def xU (u:Value) (b:Bool):Prop:=(u=.nilFunc/\b=mY)\/((∃f x y,u=.func f x y)/\b=mz)
namespace Rx
inductive Kd|int (k:IntKind)|bool|ptr|sl|str|map|agg|any
def Kd.T:Kd->Type
 | .int _=>Int| .bool=>Bool| .ptr=>Option Addr| .sl=>Sl| .str=>ByteArray| .map=>Option Nat| .agg=>Array Value| .any=>Value
def Kd.v:(k:Kd)->k.T->Value
 | .int k,x=> .int k x| .bool,b=> .bool b| .ptr,p=> .pointer p| .sl,s=>Sl.v s| .str,s=> .string s| .map,m=> .map m| .agg,c=> .agg c| .any,v=>v
def XR:TypeDesc->Kd
 | .int k=> .int k| .bool=> .bool| .string=> .str| .pointer _=> .ptr| .slice _=> .sl| .map _ _=> .map| .struct _=> .agg| .array _ _=> .agg|_=> .any
def kd (P:Program) (t:TypeId):Kd:=match P.underlying t with|some d=>XR d|none=> .any
inductive SV|c (v:Value)|any (v:Value)|ad (a:Addr)|lit (b:Bool)|vt (w:Array Value)|und|ref (i:Nat)|unk
inductive SB|bool (b:Bool)|prp (p:Prop) (d:Decidable p)|lit (b:Bool)|ptr (p:Option Addr)|ad (a:Addr)
def SB.v:SB->Value
 | .bool b=> .bool b| .prp p d=> .bool (@decide p d)| .lit b=> .bool b| .ptr p=> .pointer p| .ad a=> .pointer (V a)
inductive VW|c (v:Value)|any (v:Value)|ad (a:Addr)|lit (b:Bool)|vt (w:Array Value)|und|bool (i:Nat) (b:Bool)|prp (i:Nat) (p:Prop) (d:Decidable p)|ptr (i:Nat) (p:Option Addr)|unk
def SB.vw (i:Nat):SB->VW
 | .bool b=> .bool i b| .prp p d=> .prp i p d| .lit b=> .lit b| .ptr p=> .ptr i p| .ad a=> .ad a
def SV.vw (T:Nat->Option SB):SV->VW
 | .c v=> .c v| .any v=> .any v| .ad a=> .ad a| .lit b=> .lit b| .vt w=> .vt w| .und=> .und
 | .ref i=>(match T i with|some s=>s.vw i|none=> .unk)
 | .unk=> .unk
def VW.val:VW->Option Value
 | .c v=>V v| .any v=>V v| .ad a=>V (.pointer (V a))| .lit b=>V (.bool b)| .vt w=>V (.tuple w)| .und=>V undef
 | .bool _ b=>V (.bool b)| .prp _ p d=>V (.bool (@decide p d))| .ptr _ p=>V (.pointer p)| .unk=>I
structure Sy where
 S:Nat->SV
 T:Nat->Option SB
 n:Nat
def up {α:Type} (f:Nat->α) (d:Nat) (x:α):Nat->α:=λt=>bif Nat.beq t d then x else f t
def YS:Value->SV
 | .bool b=> .lit b|v=> .c v
def Sy.cp (σ:Sy):Operand->SV
 | .tmp t=>σ.S t| .const v=>YS v| .global g=> .ad ⟨g,0,I⟩| .func f=> .c (.func (.func f) #[] #[])
def Sy.ov (σ:Sy) (x:Operand):VW:=(σ.cp x).vw σ.T
def Sy.vw (σ:Sy) (t:Nat):VW:=(σ.S t).vw σ.T
inductive NV|sv (s:SV)|nb (b:SB)
def Sy.put (σ:Sy) (d:Nat):NV->Sy
 | .sv s=>⟨up σ.S d s,σ.T,σ.n⟩
 | .nb b=>⟨up σ.S d (.ref σ.n),up σ.T σ.n (V b),σ.n+1⟩
def Sy.putO (σ:Sy):Option Tmp->NV->Sy
 |some d,v=>σ.put d v
 |none,_=>σ
def Sy.rf (σ:Sy) (i:Nat) (b:SB):Sy:=⟨σ.S,up σ.T i (V b),σ.n⟩
def Kd.nv:(k:Kd)->k.T->NV
 | .int k,x=> .sv (.c (.int k x))| .bool,b=> .nb (.bool b)| .ptr,p=> .nb (.ptr p)| .sl,s=> .sv (.c (Sl.v s))| .str,s=> .sv (.c (.string s))| .map,m=> .sv (.c (.map m))| .agg,c=> .sv (.c (.agg c))| .any,v=> .sv (.any v)
def Y6:Kd->Value->NV
 | .any,v=> .sv (.any v)
 | .bool,v=>(match v with| .bool b=> .nb (.bool b)|_=> .sv .unk)
 | .ptr,v=>(match v with| .pointer p=> .nb (.ptr p)|_=> .sv .unk)
 |_,v=> .sv (.c v)
def pq:List Nat->Nat->Bool
 |[],_=>mz
 |x::l,t=>bif Nat.beq t x then mY else pq l t
def Sy.hav (σ:Sy) (M:List Nat):Sy:=⟨λt=>bif pq M t then .unk else σ.S t,σ.T,σ.n⟩
def XN (σ:Sy) (x:Operand) (K:Sy->Addr->Prop):Prop:=
 match σ.ov x with
 | .ad a=>K σ a
 | .ptr i p=>∃a:Addr,p=V a/\K (σ.rf i (.ad a)) a
 | .c (.pointer (V a))=>K σ a
 |_=>False
def xV (σ:Sy):List Operand->(List Value->Prop)->Prop
 |[],K=>K []
 |x::l,K=>match (σ.ov x).val with|some v=>xV σ l (λus=>K (v::us))|none=>False
abbrev RK:=Sy->NV->Option (PH->Prop)->Prop
def yY (b:Bool) (K:Prop):Prop:=match b with|true=>K|false=>False
def ZO (op:BinOp) (k:IntKind) (a b:Int) (lit:Bool) (K:NV->Prop):Prop:=
 match op with
 | .add=>K (.sv (.c (.int k (k.wrap (a+b)))))
 | .sub=>K (.sv (.c (.int k (k.wrap (a - b)))))
 | .mul=>K (.sv (.c (.int k (k.wrap (a*b)))))
 | .quo=>(match lit with|true=>(match decide (b≠0) with|true=>K (.sv (.c (.int k (k.wrap (Int.tdiv a b)))))|false=>False)|false=>b≠0/\K (.sv (.c (.int k (k.wrap (Int.tdiv a b))))))
 | .rem=>(match lit with|true=>(match decide (b≠0) with|true=>K (.sv (.c (.int k (Int.tmod a b))))|false=>False)|false=>b≠0/\K (.sv (.c (.int k (Int.tmod a b)))))
 | .and=>K (.sv (.c (.int k (k.wrap ((BitVec.ofInt k.bits a &&& BitVec.ofInt k.bits b).toNat)))))
 | .or=>K (.sv (.c (.int k (k.wrap ((BitVec.ofInt k.bits a ||| BitVec.ofInt k.bits b).toNat)))))
 | .xor=>K (.sv (.c (.int k (k.wrap ((BitVec.ofInt k.bits a ^^^ BitVec.ofInt k.bits b).toNat)))))
 | .andNot=>K (.sv (.c (.int k (k.wrap ((BitVec.ofInt k.bits a &&& ~~~ BitVec.ofInt k.bits b).toNat)))))
 | .lss=>K (.nb (.prp (a<b) inferInstance))
 | .leq=>K (.nb (.prp (a<=b) inferInstance))
 | .gtr=>K (.nb (.prp (b<a) inferInstance))
 | .geq=>K (.nb (.prp (b<=a) inferInstance))
 | .eql=>K (.nb (.prp (a=b) inferInstance))
 | .neq=>K (.nb (.prp (a≠b) inferInstance))
 |_=>False
def ZN (op:BinOp) (k:IntKind) (a b:Int) (lit:Bool) (K:NV->Prop):Prop:=
 match op with
 | .shl=>(match lit with|true=>(match decide (0<=b) with|true=>K (.sv (.c (.int k (k.wrap (a*2 ^ (min b.toNat k.bits))))))|false=>False)|false=>0<=b/\K (.sv (.c (.int k (k.wrap (a*2 ^ (min b.toNat k.bits)))))))
 | .shr=>(match lit with|true=>(match decide (0<=b) with|true=>K (.sv (.c (.int k (a.fdiv (2 ^ (min b.toNat k.bits))))))|false=>False)|false=>0<=b/\K (.sv (.c (.int k (a.fdiv (2 ^ (min b.toNat k.bits)))))))
 |_=>False
def N9:BinOp->Bool
 | .shl=>mY| .shr=>mY|_=>mz
def xW:Operand->Bool
 | .const _=>mY|_=>mz
def VW.tv:VW->Option Bool
 | .lit b=>V b| .bool _ b=>V b| .prp _ p d=>V (@decide p d)|_=>I
def LF (P:Program) (σ:Sy) (op:BinOp) (t:TypeId) (x y:Operand) (K:NV->Prop):Prop:=
 match σ.ov x,σ.ov y with
 | .c (.int k a),.c (.int k' b)=>(match N9 op with|true=>ZN op k a b (xW y) K|false=>(match decide (k=k') with|true=>ZO op k a b (xW y) K|false=>False))
 | .c (.string c),.c (.string d)=>(match op with
  | .add=>c.size+d.size<=9223372036854775807/\K (.sv (.c (.string (c++d))))
  | .lss=>K (.nb (.bool (Op.bytesLess c.toList d.toList)))
  | .geq=>K (.nb (.bool (!Op.bytesLess c.toList d.toList)))
  | .eql=>K (.nb (.bool (c.toList==d.toList)))
  | .neq=>K (.nb (.bool (!(c.toList==d.toList))))
  |_=>False)
 | .ad _,.c (.pointer I)=>(match P.underlying t,op with|some (.pointer _),.eql=>K (.sv (.lit mz))|some (.pointer _),.neq=>K (.sv (.lit mY))|_,_=>False)
 | .ptr _ p,.c (.pointer I)=>(match P.underlying t,op with|some (.pointer _),.eql=>K (.nb (.bool p.isNone))|some (.pointer _),.neq=>K (.nb (.bool (!p.isNone)))|_,_=>False)
 | .c (.slice b _ _),.c (.slice I 0 0)=>(match P.underlying t,op with|some (.slice _),.eql=>K (.nb (.bool b.isNone))|some (.slice _),.neq=>K (.nb (.bool (!b.isNone)))|_,_=>False)
 | .c (.agg c),.c (.agg d)=>(match P.eqGuardType P.depth t,op with
  |false,.eql=>∃v:Bool,(∀F,pn P (Op.equal t (.agg c) (.agg d)) F v)/\K (.nb (.bool v))
  |false,.neq=>∃v:Bool,(∀F,pn P (Op.equal t (.agg c) (.agg d)) F v)/\K (.nb (.bool (!v)))
  |_,_=>False)
 | .any u,.c .nilFunc=>(match P.underlying t,op with
  |some (.func _ _ _),.eql=>∃v:Bool,xU u v/\K (.nb (.bool v))
  |some (.func _ _ _),.neq=>∃v:Bool,xU u v/\K (.nb (.bool (!v)))
  |_,_=>False)
 |u,w=>(match P.underlying t,u.tv,w.tv with
  |some .bool,V a,V b=>(match op with| .eql=>K (.nb (.bool (a==b)))| .neq=>K (.nb (.bool (!(a==b))))|_=>False)
  |_,_,_=>False)
def Ty (P:Program) (t:TypeId) (a:Addr) (F:PH) (K:NV->(PH->Prop)->Prop):Prop:=
 match P.underlying t with
 |none=>False
 |some d=>match XR d with
  | .agg=>(match vA P t with|some (n,_)=>∃v:Array Value,v.size=n/\F.row a v/\K (.sv (.c (.agg v))) (λF=>F.row a v)|none=>False)
  |k=>∃x:k.T,F.cell a=V (k.v x)/\K (k.nv x) (λF=>F.cell a=V (k.v x))
def xX (σ:Sy) (y:Option Operand) (dflt:Nat) (K:Nat->Prop):Prop:=
 match y with
 |none=>K dflt
 |some y=>match σ.ov y with
  | .c (.int _ i)=>(match xW y with|true=>(match decide (0<=i) with|true=>K i.toNat|false=>False)|false=>0<=i/\K i.toNat)
  |_=>False
def XF (σ:Sy) (place:Nat->Option (Nat×Nat)) (n:Nat):List (Nat×Operand)->Array Value->(Array Value->Prop)->Prop
 |[],cs,K=>K cs
 | (i,x)::l,cs,K=>match place i with
  |none=>False
  |some (off,s)=>match σ.ov x with
   | .c (.agg c)=>(match Nat.ble (off+s) n with|true=>c.size=s/\XF σ place n l (wr cs off c.toList) K|false=>False)
   | .c v=>(match Nat.beq s 1,Nat.blt off n with|true,mY=>XF σ place n l (cs.setIfInBounds off v) K|_,_=>False)
   | .any _=>False
   |w=>(match Nat.beq s 1,Nat.blt off n,w.val with|true,mY,V v=>XF σ place n l (cs.setIfInBounds off v) K|_,_,_=>False)
def YT:Op->Bool
 | .move _| .assign _| .pick _ _ _| .nilCheck _| .extract _ _| .fieldAddr _ _ _| .load _ _| .indexAddr _ _ _| .index _ _ _| .field _ _ _| .binOp _ _ _ _ _| .unOp _ _ _| .convert _ _ _| .slice _ _ _ _ _
 | .build _ _| .lookup _ _ _ _| .makeFunc _ _ _| .entry _=>mY
 | .call ⟨.builtin .len,_,_⟩| .call ⟨.builtin .cap,_,_⟩| .call ⟨.builtin .max,_,_⟩| .call ⟨.builtin .min,_,_⟩=>mY
 |_=>mz
def ZC (P:Program) (σ:Sy) (o:Oper) (F:PH) (K:RK):Prop:=
 match o.op with
 | .move x=>K σ (.sv (σ.cp x)) I
 | .assign x=>K σ (.sv (σ.cp x)) I
 | .pick c a b=>(match σ.ov c with| .lit mY=>K σ (.sv (σ.cp a)) I| .lit mz=>K σ (.sv (σ.cp b)) I|_=>False)
 | .nilCheck x=>(match σ.ov x with
  | .c (.func (.func _) _ _)=>K σ (.sv (σ.cp x)) I
  |_=>XN σ x λσ a=>K σ (.sv (.ad a)) I)
 | .extract x i=>(match σ.ov x with
  | .c (.tuple vs)=>(match vs[i]? with|some v=>K σ (Y6 (kd P o.type) v) I|none=>False)
  | .vt w=>∃v:(kd P o.type).T,w[i]? =V ((kd P o.type).v v)/\K σ ((kd P o.type).nv v) I
  |_=>False)
 | .fieldAddr t x i=>(match P.underlying t with
  |some (.struct fs)=>(match fs[i]? with
   |some f=>(match vA P f.type with|some (_+1,_)=>XN σ x λσ a=>K σ (.sv (.ad (a.add f.offset))) I|_=>False)
   |none=>False)
  |_=>False)
 | .load t x=>XN σ x λσ a=>Ty P t a F λv ck=>K σ v (V ck)
 | .indexAddr t x y=>(match σ.ov y,P.underlying t with
  | .c (.int _ i),V (.slice e)=>(match σ.ov x,vA P e with
   | .c (.slice qa5 len _),V (s,_)=>∃a:Addr,qa5=V a/\0<=i/\i<(len:Int)/\K σ (.sv (.ad (a.add (i.toNat*s)))) I
   |_,_=>False)
  | .c (.int _ i),V (.array n e)=>(match vA P e with
   |some (s,_)=>XN σ x λσ a=>0<=i/\i<(n:Int)/\K σ (.sv (.ad (a.add (i.toNat*s)))) I
   |_=>False)
  |_,_=>False)
 | .index t x y=>(match σ.ov x,σ.ov y,P.underlying t with
  | .c (.string s),.c (.int _ i),V .string=>0<=i/\i<(s.size:Int)/\∃(hx:Int.toNat i<s.size) (v:Int),v=((s[Int.toNat i]'hx).toNat:Int)/\K σ (.sv (.c (.int .u8 v))) I
  | .c (.agg cs),.c (.int _ i),V (.array n e)=>(match P.underlying e,vA P e with
   |some d,V (s,_)=>(match XR d with
    | .agg=>False
    |k=>0<=i/\i<(n:Int)/\∃v:k.T,cs[i.toNat*s]? =V (k.v v)/\K σ (k.nv v) I)
   |_,_=>False)
  |_,_,_=>False)
 | .field t x i=>(match σ.ov x,P.underlying t with
  | .c (.agg cs),V (.struct fs)=>(match fs[i]? with
   |some f=>(match P.underlying f.type,vA P f.type with
    |some d,V (s,_)=>(match XR d with
     | .agg=>K σ (.sv (.c (.agg (cs.extract f.offset (f.offset+s))))) I
     |k=>∃v:k.T,cs[f.offset]? =V (k.v v)/\K σ (k.nv v) I)
    |_,_=>False)
   |none=>False)
  |_,_=>False)
 | .binOp op t x y _=>LF P σ op t x y λv=>K σ v I
 | .unOp op _ x=>(match op,σ.ov x with
  | .not,.lit b=>K σ (.sv (.lit (!b))) I
  | .not,.bool _ b=>K σ (.nb (.bool (!b))) I
  | .not,.prp _ p d=>K σ (.nb (.prp (¬p) (@instDecidableNot p d))) I
  | .neg,.c (.int k a)=>K σ (.sv (.c (.int k (k.wrap (0 - a))))) I
  |_,_=>False)
 | .convert t t' x=>(match σ.ov x,P.underlying t,P.underlying t' with
  | .c (.int _ a),V _,V (.int k')=>K σ (.sv (.c (.int k' (k'.wrap a)))) I
  | .c (.slice b l c),V (.slice e),V .string=>(match P.underlying e with
   |some (.int .u8)=>∃s:ByteArray,pn P (Conv.bytesToString (.slice b l c)) F (.string s)/\K σ (.sv (.c (.string s))) (V λF=>pn P (Conv.bytesToString (.slice b l c)) F (.string s))
   |_=>False)
  |_,_,_=>False)
 | .slice t x lo hi mx=>(match P.underlying t,mx with
  |some (.slice e),I=>(match σ.ov x,vA P e with
   | .c (.slice b len cap),V (sz,_)=>xX σ lo 0 λl=>xX σ hi len λh=>l<=h/\h<=cap/\K σ (.sv (.c (Sl.v (Sl.cut ⟨b,len,cap⟩ sz l h cap)))) I
   |_,_=>False)
  |some .string,I=>(match σ.ov x with
   | .c (.string s)=>xX σ lo 0 λl=>xX σ hi s.size λh=>l<=h/\h<=s.size/\K σ (.sv (.c (.string (s.extract l h)))) I
   |_=>False)
  |some (.array n e),I=>(match vA P e,lo,hi with
   |some (sz,_),I,I=>XN σ x λσ a=>K σ (.sv (.c (Sl.v (Sl.cut ⟨V a,n,n⟩ sz 0 n n)))) I
   |some (sz,_),lo,hi=>XN σ x λσ a=>xX σ lo 0 λl=>xX σ hi n λh=>l<=h/\h<=n/\K σ (.sv (.c (Sl.v (Sl.cut ⟨V a,n,n⟩ sz l h n)))) I
   |_,_,_=>False)
  |some (.slice e),V mx=>(match σ.ov x,vA P e,hi.map σ.ov,σ.ov mx with
   | .c (.slice b len cap),V (sz,_),V (.c (.int _ i)),.c (.int _ m)=>xX σ lo 0 λl=>
    0<=i/\0<=m/\l<=i.toNat/\i<=m/\m<=(cap:Int)/\K σ (.sv (.c (Sl.v (Sl.cut ⟨b,len,cap⟩ sz l i.toNat m.toNat)))) I
   |_,_,_,_=>False)
  |_,_=>False)
 | .build t parts=>(match P.underlying t,bu P t with
  |some (.struct fs),V z=>yY (js P fs) (XF σ (λi=>(mZ P fs)[i]?) z.cells.size parts.toList z.cells λcs=>K σ (.sv (.c (.agg cs))) I)
  |some (.array _ e),V z=>(match vA P e with
   |some (s,_)=>XF σ (λi=>V (i*s,s)) z.cells.size parts.toList z.cells λcs=>K σ (.sv (.c (.agg cs))) I
   |none=>False)
  |_,_=>False)
 | .makeFunc (.func f) first cap=>xV σ first.toList λus=>xV σ cap.toList λvs=>K σ (.sv (.c (.func (.func f) us.toArray vs.toArray))) I
 | .lookup t x y ok=>(match (σ.ov x).val,(σ.ov y).val,P.underlying t with
  |some u,V v,V (.map _ e)=>(match ok with
   |true=>∃(r:(kd P e).T) (b:Bool),pn P (Instr.lookup t u v mY) F (.tuple #[(kd P e).v r,.bool b])/\K σ (.sv (.c (.tuple #[(kd P e).v r,.bool b]))) (V λF=>pn P (Instr.lookup t u v mY) F (.tuple #[(kd P e).v r,.bool b]))
   |false=>∃r:(kd P e).T,pn P (Instr.lookup t u v mz) F ((kd P e).v r)/\K σ ((kd P e).nv r) (V λF=>pn P (Instr.lookup t u v mz) F ((kd P e).v r)))
  |_,_,_=>False)
 | .entry x=>(match (σ.ov x).val with
  |some u=>∃w:Array Value,pn P (Instr.entry u) F (.tuple w)/\K σ (.sv (.vt w)) (V λF=>pn P (Instr.entry u) F (.tuple w))
  |none=>False)
 | .call ⟨.builtin b,args,ts⟩=>(match b,args.toList.map σ.ov,ts.toList with
  | .len,[.c (.slice _ l _)],[t]=>(match P.underlying t with|some (.slice _)=>K σ (.sv (.c (.int .i64 (l:Int)))) I|_=>False)
  | .len,[.c (.string s)],[t]=>(match P.underlying t with|some .string=>K σ (.sv (.c (.int .i64 (s.size:Int)))) I|_=>False)
  | .len,[.c (.map m)],[t]=>∃v:Int,pn P (Builtin.len_ #[t] o.type #[.map m]) F (.int .i64 v)/\K σ (.sv (.c (.int .i64 v))) (V λF=>pn P (Builtin.len_ #[t] o.type #[.map m]) F (.int .i64 v))
  | .cap,[.c (.slice _ _ c)],[t]=>(match P.underlying t with|some (.slice _)=>K σ (.sv (.c (.int .i64 (c:Int)))) I|_=>False)
  | .max,[.c (.int k a),.c (.int k' b)],_=>yY (decide (k=k')) (K σ (.sv (.c (.int k (max a b)))) I)
  | .min,[.c (.int k a),.c (.int k' b)],_=>yY (decide (k=k')) (K σ (.sv (.c (.int k (min a b)))) I)
  | .max,[.c (.int k a),.c (.int k' b),.c (.int k'' c)],_=>yY (decide (k=k'/\k=k'')) (K σ (.sv (.c (.int k (max (max a b) c)))) I)
  | .min,[.c (.int k a),.c (.int k' b),.c (.int k'' c)],_=>yY (decide (k=k'/\k=k'')) (K σ (.sv (.c (.int k (min (min a b) c)))) I)
  |_,_,_=>False)
 |_=>False
def Ah (P:Program) (σ:Sy) (d:Option Tmp) (t:TypeId) (v:Value) (K:Sy->Prop):Prop:=
 match d with
 |none=>K σ
 |some d=>match P.underlying t with
  |some (.tuple ts)=>(match ts.toList with
   |[]=>v=.tuple #[]/\K (σ.put d (.sv (.c (.tuple #[]))))
   |[a]=>∃x:(kd P a).T,v=.tuple #[(kd P a).v x]/\K (σ.put d (.sv (.c (.tuple #[(kd P a).v x]))))
   |[a,b]=>∃x:(kd P a).T,∃y:(kd P b).T,v=.tuple #[(kd P a).v x,(kd P b).v y]/\K (σ.put d (.sv (.c (.tuple #[(kd P a).v x,(kd P b).v y]))))
   |[a,b,c]=>∃x:(kd P a).T,∃y:(kd P b).T,∃z:(kd P c).T,v=.tuple #[(kd P a).v x,(kd P b).v y,(kd P c).v z]/\K (σ.put d (.sv (.c (.tuple #[(kd P a).v x,(kd P b).v y,(kd P c).v z]))))
   |[a,b,c,e]=>∃x:(kd P a).T,∃y:(kd P b).T,∃z:(kd P c).T,∃u:(kd P e).T,v=.tuple #[(kd P a).v x,(kd P b).v y,(kd P c).v z,(kd P e).v u]/\K (σ.put d (.sv (.c (.tuple #[(kd P a).v x,(kd P b).v y,(kd P c).v z,(kd P e).v u]))))
   |[a,b,c,e,f]=>∃x:(kd P a).T,∃y:(kd P b).T,∃z:(kd P c).T,∃u:(kd P e).T,∃w:(kd P f).T,v=.tuple #[(kd P a).v x,(kd P b).v y,(kd P c).v z,(kd P e).v u,(kd P f).v w]/\K (σ.put d (.sv (.c (.tuple #[(kd P a).v x,(kd P b).v y,(kd P c).v z,(kd P e).v u,(kd P f).v w]))))
   |_=>False)
  |_=>∃x:(kd P t).T,v=(kd P t).v x/\K (σ.put d ((kd P t).nv x))
abbrev EK:=Bool->Sy->PH->Prop
def XC (σ:Sy) (d:Option Tmp) (o:Obj) (s:Nat->SV) (F:PH) (K:EK):Prop:=
 ∀b,F b=I->xG (F.set b o) λF=>K mY (σ.putO d (.sv (s b))) F
def Oa (σ:Sy):Nat->List (Nat×Operand)->Option (List Value)
 |_,[]=>V []
 |k,(i,x)::l=>match Nat.beq i k,σ.ov x with
  |true,.c (.agg _)=>I
  |true,.any _=>I
  |true,w=>(match w.val,Oa σ (k+1) l with|some v,V vs=>V (v::vs)|_,_=>I)
  |false,_=>I
def ZA (P:Program) (σ:Sy) (o:Oper) (F:PH) (K:EK):Prop:=
 match o.op with
 | .alloc t=>(match bu P t with|some z=>XC σ o.dst (Y z.cells t) (λb=> .ad ⟨b,0,I⟩) F K|none=>False)
 | .box t x=>(match σ.ov x with
  | .c (.agg c)=>XC σ o.dst (Y c t) (λb=> .ad ⟨b,0,I⟩) F K
  | .any v=>v.cells= #[v]/\XC σ o.dst (Y #[v] t) (λb=> .ad ⟨b,0,I⟩) F K
  |w=>(match w.val with|some v=>XC σ o.dst (Y #[v] t) (λb=> .ad ⟨b,0,I⟩) F K|none=>False))
 | .buildSlice t m parts=>(match P.underlying t with
  |some (.slice e)=>(match vA P e,bu P e with
   |some (s,_),V z=>(match Nat.ble (m*s) 16777216,Nat.beq z.cells.size s,Nat.blt 0 s with
    |true,mY,mY=>(match Nat.beq s 1,Nat.beq parts.toList.length m,Oa σ 0 parts.toList with
     |true,mY,V l=>XC σ o.dst (Y l.toArray e) (λb=> .c (Sl.v ⟨V ⟨b,0,I⟩,m,m⟩)) F K
     |_,_,_=>(match m,parts.toList.map (λp=>(p.1,σ.ov p.2)) with
      |1,[(0,.c (.agg c))]=>c.size=s/\XC σ o.dst (Y c e) (λb=> .c (Sl.v ⟨V ⟨b,0,I⟩,1,1⟩)) F K
      |m,_=>XF σ (λi=>V (i*s,s)) (m*s) parts.toList ((List.replicate m z.cells.toList).flatten).toArray λcs=>XC σ o.dst (Y cs e) (λb=> .c (Sl.v ⟨V ⟨b,0,I⟩,m,m⟩)) F K))
    |_,_,_=>False)
   |_,_=>False)
  |_=>False)
 | .store t x y=>XN σ x λσ a=>(match σ.ov y,vA P t with
  | .c (.agg v),V (n+1,_)=>aA F a (n+1) v λF=>K mz (σ.putO o.dst (.sv .und)) F
  | .c (.tuple _),_=>False
  | .c v,V (1,_)=>qW F a v λF=>K mz (σ.putO o.dst (.sv .und)) F
  | .any v,V (1,_)=>ak v/\v.cells= #[v]/\qW F a v λF=>K mz (σ.putO o.dst (.sv .und)) F
  | .vt _,_=>False
  | .und,_=>False
  |w,V (1,_)=>(match w.val with|some v=>qW F a v λF=>K mz (σ.putO o.dst (.sv .und)) F|none=>False)
  |_,_=>False)
 | .range t x=>(match P.underlying t,σ.ov x with
  |some .string,.c (.string s)=>XC σ o.dst (.stringIter s 0) (λb=> .ad ⟨b,0,I⟩) F K
  |some (.map _ _),w=>(match w.val with
   |some v=>aG P (Instr.range t v) F λv F=>∃b:Nat,v=.pointer (V ⟨b,0,I⟩)/\K mz (σ.putO o.dst (.sv (.ad ⟨b,0,I⟩))) F
   |none=>False)
  |_,_=>False)
 | .next x is=>(match (σ.ov x).val with
  |some v=>aG P (Instr.next v is o.type) F λv F=>∃w:Array Value,v=.tuple w/\K mz (σ.putO o.dst (.sv (.vt w))) F
  |none=>False)
 | .makeSlice t x y=>(match (σ.ov x).val,(σ.ov y).val with
  |some u,V v=>aG P (Instr.makeSlice t u v) F λv F=>∃s:Sl,v=Sl.v s/\K mz (σ.putO o.dst (.sv (.c (Sl.v s)))) F
  |_,_=>False)
 | .makeMap _ I=>XC σ o.dst (.map #[] 0) (λb=> .c (.map (V b))) F K
 | .mapUpdate t x y z=>(match (σ.ov x).val,(σ.ov y).val,(σ.ov z).val with
  |some u,V v,V w=>aG P (Instr.mapUpdate t u v w) F λ_ F=>K mz (σ.putO o.dst (.sv .und)) F
  |_,_,_=>False)
 | .insert t x y z=>(match (σ.ov x).val,(σ.ov y).val,(σ.ov z).val with
  |some u,V v,V w=>aG P (Instr.mapUpdate t u v w) F λ_ F=>K mz (σ.putO o.dst (.sv .und)) F
  |_,_,_=>False)
 | .call ⟨.builtin b,args,ts⟩=>(match b,args.toList with
  | .append,[x,y]=>(match (σ.ov x).val,(σ.ov y).val with
   |some u,V v=>aG P (Builtin.append_ ts o.type #[u,v]) F λv F=>∃s:Sl,v=Sl.v s/\K mz (σ.putO o.dst (.sv (.c (Sl.v s)))) F
   |_,_=>False)
  | .copy,[x,y]=>(match (σ.ov x).val,(σ.ov y).val with
   |some u,V v=>aG P (Builtin.copy_ ts o.type #[u,v]) F λv F=>∃n:Int,v=.int .i64 n/\K mz (σ.putO o.dst (.sv (.c (.int .i64 n)))) F
   |_,_=>False)
  | .delete,[x,y]=>(match (σ.ov x).val,(σ.ov y).val with
   |some u,V v=>aG P (Builtin.delete_ ts o.type #[u,v]) F λ_ F=>K mz (σ.putO o.dst (.sv .unk)) F
   |_,_=>False)
  |_,_=>False)
 | .call ⟨.value (.func f),args,_⟩=>xV σ args.toList λvs=>yY (aF P f) (aj P f vs.toArray F λv F=>Ah P σ o.dst o.type v λσ=>K mz σ F)
 | .call ⟨.value g,args,_⟩=>xV σ args.toList λvs=>(match σ.ov g with
  | .c (.func (.func f) a b)=>yY (aF P f) (aj P f (a++vs.toArray++b) F λv F=>Ah P σ o.dst o.type v λσ=>K mz σ F)
  | .any u=>∃(k:Nat) (a b:Array Value),u=.func (.func k) a b/\aF P k=mY/\aj P k (a++vs.toArray++b) F λv F=>Ah P σ o.dst o.type v λσ=>K mz σ F
  |_=>False)
 | .defer ⟨.value g,args,_⟩=>xV σ args.toList λvs=>(match σ.ov g with
  | .c (.func (.func f) a b)=>Cz P ⟨.fn (.func f) b,a++vs.toArray⟩/\K mz (σ.putO o.dst (.sv .und)) F
  |_=>False)
 |_=>False
inductive G|go|no|split (i:Nat) (b:SB) (want:Bool)|bad
def Yb (ops:Array Oper) (σ:Sy) (o:Oper):G:=
 match o.guard with
 |none=> .go
 |some (j,want)=>match (ops[j]?).bind (·.dst) with
  |none=> .no
  |some t=>match σ.vw t with
   | .lit b=>(match b==want with|true=> .go|false=> .no)
   | .und=> .no
   | .bool i b=> .split i (.bool b) want
   | .prp i p d=> .split i (.prp p d) want
   |_=> .bad
def Zz (b:SB) (f:Bool->Prop):Prop:=
 match b with
 | .bool b=>(b=mY->f mY)/\(b=mz->f mz)
 | .prp p _=>(p->f mY)/\(¬p->f mz)
 |_=>False
def Zm (P:Program) (o:Oper) (K:Sy->PH->Prop) (σ:Sy) (F:PH):Prop:=
 match YT o.op with
 |true=>ZC P σ o F λσ v _=>K (σ.putO o.dst v) F
 |false=>ZA P σ o F λ_ σ F=>K σ F
def XP (P:Program) (n:Nat) (ops:Array Oper) (K:Sy->PH->Prop):List Oper->Sy->PH->Prop
 |[],σ,F=>K σ F
 |o::l,σ,F=>yY (fq n o.dst) (match Yb ops σ o with
  | .go=>Zm P o (XP P n ops K l) σ F
  | .no=>XP P n ops K l (σ.putO o.dst (.sv .und)) F
  | .split i b want=>Zz b λv=>match v==want with
   |true=>Zm P o (XP P n ops K l) (σ.rf i (.lit v)) F
   |false=>XP P n ops K l ((σ.rf i (.lit v)).putO o.dst (.sv .und)) F
  | .bad=>False)
abbrev Pn:=List (Nat×(PH->Prop))
def Tz (F:PH):Pn->Prop->Prop
 |[],K=>K
 | (_,c)::l,K=>c F/\Tz F l K
def va (ops:Array Oper) (σ:Sy):List Nat->Option (Nat×Oper×G)
 |[]=>I
 |i::l=>match ops[i]? with
  |none=>I
  |some o=>match Yb ops σ o with
   | .go=>(match YT o.op with|true=>V (i,o,.go)|false=>va ops σ l)
   |g=>V (i,o,g)
def TA:List Prop->Prop
 |[]=>False
 |[p]=>p
 |p::l=>p/\TA l
def XO (P:Program) (n:Nat) (ops:Array Oper) (K:Sy->PH->Prop):Nat->Nat->Array Bool->Pn->Sy->PH->Prop
 |0,_,_,_,_,_=>False
 |k+1,fuel,listed,pend,σ,F=>match Region.ready .any ops listed with
  |[]=>K σ F
  |rs=>match fuel with
   |0=>False
   |fuel+1=>match va ops σ rs with
    |some (i,o,g)=>yY (Region.noSelect ops && Region.free .any ops listed i && (Region.ready .any ops listed).contains i && fq n o.dst) (match g with
     | .no=>XO P n ops K k fuel (listed.setIfInBounds i mY) pend (σ.putO o.dst (.sv .und)) F
     | .split j b _=>Zz b λv=>XO P n ops K k (fuel+1) listed pend (σ.rf j (.lit v)) F
     | .go=>ZC P σ o F λσ v ck=>XO P n ops K k fuel (listed.setIfInBounds i mY) (match ck with|none=>pend|some c=>(i,c)::pend) (σ.putO o.dst v) F
     | .bad=>False)
    |none=>TA (rs.map λi=>match ops[i]? with
     |none=>False
     |some o=>yY (fq n o.dst) (ZA P σ o F λfl σ F=>
      match fl with
      |true=>XO P n ops K k fuel (listed.setIfInBounds i mY) (pend.filter λp=> !Oper.waits .any o p.1) σ F
      |false=>Tz F (pend.filter λp=> !Oper.waits .any o p.1) (XO P n ops K k fuel (listed.setIfInBounds i mY) (pend.filter λp=> !Oper.waits .any o p.1) σ F)))
def Tl:List (Nat×Kd)->Type
 |[]=>PH->Prop
 | (_,k)::l=>k.T->Tl l
def Zy (w:VW):(k:Kd)->(k.T->Prop)->Prop
 | .int k,K=>(match w with| .c (.int k' x)=>(match decide (k=k') with|true=>K x|false=>False)|_=>False)
 | .bool,K=>(match w with| .lit b=>K b| .bool _ b=>K b| .prp _ p d=>K (@decide p d)|_=>False)
 | .ptr,K=>(match w with| .ad a=>K (V a)| .ptr _ p=>K p| .c (.pointer p)=>K p|_=>False)
 | .sl,K=>(match w with| .c (.slice b l c)=>K ⟨b,l,c⟩|_=>False)
 | .str,K=>(match w with| .c (.string s)=>K s|_=>False)
 | .map,K=>(match w with| .c (.map m)=>K m|_=>False)
 | .agg,K=>(match w with| .c (.agg c)=>K c|_=>False)
 | .any,K=>(match w.val with|some v=>K v|none=>False)
def W1 (σ:Sy):(l:List (Nat×Kd))->Tl l->PH->Prop
 |[],z0,F=>z0 F
 | (t,k)::l,z0,F=>Zy (σ.vw t) k λx=>W1 σ l (z0 x) F
def Zv (f:Sy->PH->Prop):(l:List (Nat×Kd))->Sy->Tl l
 |[],σ=>f σ
 |(t,k)::l,σ=>λx=>Zv f l (σ.put t (k.nv x))
def TB (f:Sy->PH->Prop):(l:List (Nat×Kd))->Tl l->Sy->Prop
 |[],z0,σ=>∀F,z0 F->f σ F
 |(t,k)::l,z0,σ=>∀x:k.T,TB f l (z0 x) (σ.put t (k.nv x))
def TC:(l:List (Nat×Kd))->Tl l->Tl l->Prop
 |[],z1,z0=>∀F,z1 F->z0 F
 |(_,k)::l,z1,z0=>∀x:k.T,TC l (z1 x) (z0 x)
def ZL:(l:List (Nat×Kd))->(Nat->Tl l)->Nat->Tl l
 |[],z0,m=>λF=>∃m',m'<m/\z0 m' F
 | (_,_)::l,z0,m=>λx=>ZL l (λm'=>z0 m' x) m
inductive iX|N|T (a b:iX)|J (cut:Bool) (l:List (Nat×Kd)) (a b:iX)|L (l:List (Nat×Kd)) (a:iX)
abbrev iX.qa8 (h:iX):iX:=.T .N h
def iX.fst:iX->iX
 | .T a _=>a| .J _ _ a _=>a| .L _ a=>a| .N=> .N
def iX.snd:iX->iX
 | .T _ b=>b| .J _ _ _ b=>b|_=> .N
def iX.jn:iX->Option (Bool×List (Nat×Kd))
 | .J c l _ _=>V (c,l)|_=>I
def iX.lv:iX->List (Nat×Kd)
 | .L l _=>l|_=>[]
def LG:List Oper->List Nat
 |[]=>[]
 |o::l=>match o.dst with|some d=>d::LG l|none=>LG l
def iY:Code->List Nat
 | .region _ ops _=>LG ops.toList
 | .seq a b=>iY a++iY b
 | .cond _ a b=>iY a++iY b
 | .block _ c=>iY c
 | .loop c=>iY c
 | .scope c=>iY c
 |_=>[]
abbrev CK:=Exit->Sy->PH->Prop
def Yy (f:Sy->PH->Prop) (K:CK):CK
 | .normal,σ,F=>f σ F
 |x,σ,F=>K x σ F
def Z6 (id:Nat) (K:CK):CK
 | .exit i,σ,F=>bif Nat.beq i id then K .normal σ F else K (.exit i) σ F
 |x,σ,F=>K x σ F
def Z5 (K:CK):CK
 | .goto _,_,_=>False
 |x,σ,F=>K x σ F
def sx (P:Program) (n:Nat):Code->iX->CK->Sy->PH->Prop
 | .skip,_,K,σ,F=>K .normal σ F
 | .label _,_,K,σ,F=>K .normal σ F
 | .scope c,h,K,σ,F=>sx P n c h (Z5 K) σ F
 | .ret,_,K,σ,F=>K .ret σ F
 | .exit i,_,K,σ,F=>K (.exit i) σ F
 | .region _ ops mz,_,K,σ,F=>XP P n ops (K .normal) ops.toList σ F
 | .region _ ops mY,_,K,σ,F=>yY (P.follows .mixedOrders) (XO P n ops (K .normal) (3*ops.size+1) ops.size (Array.replicate ops.size mz) [] σ F)
 | .seq a b,h,K,σ,F=>(match h.jn with
  |none=>sx P n a h.fst (Yy (sx P n b h.snd K) K) σ F
  |some (mz,l)=>sx P n a h.fst (Yy (λσ' F=>W1 σ' l (Zv (sx P n b h.snd K) l (σ.hav (iY a))) F) K) σ F
  |some (mY,l)=>∃z1:Tl l,TC l z1 (Zv (sx P n b h.snd K) l (σ.hav (iY a)))/\sx P n a h.fst (Yy (λσ' F=>W1 σ' l z1 F) K) σ F)
 | .cond c a b,h,K,σ,F=>(match σ.ov c with
  | .lit mY=>sx P n a h.fst K σ F
  | .lit mz=>sx P n b h.snd K σ F
  | .bool _ t=>(t=mY->sx P n a h.fst K σ F)/\(t=mz->sx P n b h.snd K σ F)
  | .prp _ p _=>(p->sx P n a h.fst K σ F)/\(¬p->sx P n b h.snd K σ F)
  |_=>False)
 | .block id c,h,K,σ,F=>sx P n c h (Z6 id K) σ F
 | .loop c,h,K,σ,F=>∃(z0:Nat->Tl h.lv) (m:Nat),W1 σ h.lv (z0 m) F/\∀m,TB (sx P n c h.fst (Yy (λσ' F=>W1 σ' h.lv (ZL h.lv z0 m) F) K)) h.lv (z0 m) (σ.hav (iY c))
 |_,_,_,_,_=>False
def tL (P:Program) (σ:Sy):List ResultVar->PH->(List Value->Prop)->Prop
 |[],_,K=>K []
 | .tmp t::l,F,K=>match (σ.vw t).val with|some v=>tL P σ l F (λvs=>K (v::vs))|none=>False
 | .cell x t::l,F,K=>match σ.vw x with
  | .ad a=>(match P.underlying t with
   |none=>False
   |some d=>match XR d with
    | .agg=>(match vA P t with|some (n,_)=>∃v:Array Value,v.size=n/\F.row a v/\tL P σ l F (λvs=>K (.agg v::vs))|none=>False)
    |k=>∃x:k.T,F.cell a=V (k.v x)/\tL P σ l F (λvs=>K (k.v x::vs)))
  |_=>False
def YU:List Value->Value
 |[v]=>v
 |vs=> .tuple vs.toArray
def YV (P:Program) (fn:Func) (R:Value->PH->Prop):CK
 | .normal,σ,F| .ret,σ,F=>yY (Nat.ble fn.results.size 5) (tL P σ fn.results.toList F λvs=>R (YU vs) F)
 |_,_,_=>False
def FC (P:Program):Nat->List TypeId->List Value->Sy->Sy
 |_,_,[],σ=>σ
 |i,[],v::vs,σ=>FC P (i+1) [] vs (σ.put i (Y6 .ptr v))
 |i,t::ts,v::vs,σ=>FC P (i+1) ts vs (σ.put i (Y6 (kd P t) v))
def ZB (P:Program) (k:Nat) (h:iX) (args:List Value) (R:Value->PH->Prop) (F:PH):Prop:=
 match P.funcs[k]? with
 |none=>False
 |some fn=>match fn.body with
  |none=>False
  |some c=>yY (Nat.ble args.length fn.ntmps) (sx P fn.ntmps c h (YV P fn R) (FC P 0 fn.params.toList args ⟨λ_=> .unk,λ_=>I,0⟩) F)
end Rx
abbrev Γ:=Array Value
abbrev Δ:=List Nat
abbrev Θ:=Option Addr
abbrev Ξ:=List Value
abbrev Φ:=List Int
abbrev Ψ:=PH->Prop
abbrev Ω:=Int->PH->Prop
abbrev ξ:=Value
abbrev ο:=ByteArray
end Go.Proofs.YteilolbbgieadaaGreatDoor
namespace Go.Proofs.YteilolbbgieadaaGreatDoor.Rx
open Go
def V1 (T:Nat->Option SB):SV->Value->Prop
 | .c v,x=>x=v| .any v,x=>x=v| .ad a,x=>x=.pointer (V a)| .lit b,x=>x=.bool b| .vt w,x=>x=.tuple w| .und,x=>x=undef
 | .ref i,x=>∃b,T i=V b/\x=b.v
 | .unk,_=>True
structure Rel (σ:Sy) (E:En):Prop where
 val:∀t,V1 σ.T (σ.S t) (E t)
 top:∀j,σ.n<=j->σ.T j=I
def iZ (T:Nat->Option SB):NV->Value->Prop
 | .sv s,v=>V1 T s v
 | .nb b,v=>v=b.v
theorem Q6 {T:Nat->Option SB} {s:SV} {x v:Value} (h:V1 T s x) (g:(s.vw T).val=V v):x=v:=by
 cases s with
 |ref i=>obtain ⟨b,r,rfl⟩:=h;simp only [SV.vw,r] at g;cases b<;>simp_all [SB.vw,VW.val,SB.v]
 |unk=>simp [SV.vw,VW.val] at g
 |_=>simp_all [SV.vw,VW.val,V1]
section
variable {P:Program} {σ:Sy} {E:En} {F:PH} {x y:Operand} {o:Oper}
theorem TD {T:Nat->Option SB} (v:Value):V1 T (YS v) v:=by cases v<;>rfl
theorem vb (h:Rel σ E) (x:Operand):V1 σ.T (σ.cp x) (ev E x):=by
 cases x with
 |tmp t=>exact h.val t
 |const v=>exact TD v
 |global g=>rfl
 |func f=>rfl
theorem aZ (h:Rel σ E) {w:VW} {v:Value} (r:σ.ov x=w) (g:w.val=V v):ev E x=v:=Q6 (vb h x) (by rw [<- r] at g;exact g)
theorem vn (h:Rel σ E) {v:Value} (g:σ.ov x=.c v):ev E x=v:=aZ h g rfl
theorem Ob {i:Nat} {p:Option Addr} (g:σ.ov x=.ptr i p):σ.T i=V (.ptr p):=by
 unfold Sy.ov at g;cases hs:σ.cp x<;>simp only [hs,SV.vw] at g<;>try cases g
 rename_i j;cases hb:σ.T j with
 |none=>simp [hb] at g
 |some b=>cases b<;>simp only [hb,SB.vw] at g<;>cases g;exact hb
theorem LH {i t:Nat} {b:Bool} (g:σ.vw t=.bool i b):σ.T i=V (.bool b):=by
 unfold Sy.vw at g;cases hs:σ.S t<;>simp only [hs,SV.vw] at g<;>try cases g
 rename_i j;cases hb:σ.T j with
 |none=>simp [hb] at g
 |some b=>cases b<;>simp only [hb,SB.vw] at g<;>cases g;exact hb
theorem Oc {i t:Nat} {p:Prop} {d:Decidable p} (g:σ.vw t=.prp i p d):σ.T i=V (.prp p d):=by
 unfold Sy.vw at g;cases hs:σ.S t<;>simp only [hs,SV.vw] at g<;>try cases g
 rename_i j;cases hb:σ.T j with
 |none=>simp [hb] at g
 |some b=>cases b<;>simp only [hb,SB.vw] at g<;>cases g;exact hb
theorem qM {α:Type} (f:Nat->α) (d:Nat) (v:α):up f d v d=v:=by simp [up]
theorem vc {α:Type} (f:Nat->α) {d t:Nat} (v:α) (h:¬t=d):up f d v t=f t:=by simp only [up,ln h];rfl
theorem Rel.put (h:Rel σ E) {d:Nat} {nv:NV} {v:Value} (A:iZ σ.T nv v):Rel (σ.put d nv) (upd E d v):=by
 cases nv with
 |sv s=>
  refine ⟨λt=> ?_,h.top⟩;by_cases g:t=d
  ·subst g;show V1 _ (up _ _ _ t) (upd E t v t);rw [qM,show upd E t v t=v by simp [upd]];exact A
  ·show V1 _ (up _ _ _ t) (upd E d v t);rw [vc _ _ g];simp only [upd,ln g];exact h.val t
 |nb b=>
  have key:∀s x,V1 σ.T s x->V1 (up σ.T σ.n (V b)) s x:=by
   intro s x w;cases s with
   |ref i=>obtain ⟨B,r,G⟩:=w;refine ⟨B,?_,G⟩;rw [vc _ _ (λe=> ?_)];exact r;rw [e,h.top _ (qX _)] at r;cases r
   |_=>exact w
  refine ⟨λt=> ?_,λj C=> ?_⟩
  ·by_cases g:t=d
   ·subst g;show V1 _ (up _ _ _ t) (upd E t v t);rw [qM];exact ⟨b,qM ..,(show upd E t v t=v by simp [upd]).trans A⟩
   ·show V1 _ (up _ _ _ t) (upd E d v t);rw [vc _ _ g];simp only [upd,ln g];exact key _ _ (h.val t)
  ·have D:σ.n+1<=j:=C;show up σ.T σ.n (V b) j=I;rw [vc _ _ (by omega)];exact h.top _ (by omega)
theorem Rel.putO (h:Rel σ E) {d:Option Tmp} {nv:NV} {v:Value} (g:iZ σ.T nv v):Rel (σ.putO d nv) (cR E d v):=by
 cases d with
 |none=>exact h
 |some d=>exact h.put g
theorem Rel.rf (h:Rel σ E) {i:Nat} {w b:SB} (hi:σ.T i=V w) (D:w.v=b.v):Rel (σ.rf i b) E:=by
 refine ⟨λt=> ?_,λj A=> ?_⟩
 ·have:=h.val t;show V1 (up σ.T i (V b)) (σ.S t) (E t);cases hs:σ.S t with
  |ref j=>
   rw [hs] at this;obtain ⟨C,r,B⟩:=this;by_cases g:j=i
   ·subst g;rw [hi] at r;cases r;exact ⟨b,qM ..,B.trans D⟩
   ·exact ⟨C,by rw [vc _ _ g];exact r,B⟩
  |_=>rw [hs] at this;exact this
 ·show up σ.T i (V b) j=I;have:¬j=i:=λe=>by subst e;rw [h.top _ A] at hi;cases hi
  rw [vc _ _ this];exact h.top _ A
theorem tM {T:Nat->Option SB} (k:Kd) (x:k.T):iZ T (k.nv x) (k.v x):=by cases k<;>rfl
theorem LI {T:Nat->Option SB} (k:Kd) (v:Value):iZ T (Y6 k v) v:=by cases k<;>first|rfl|(cases v<;>first|rfl|exact True.intro)
theorem lz {K:Sy->Addr->Prop} (h:XN σ x K) (r:Rel σ E):∃w a,Rel w E/\ev E x=.pointer (V a)/\K w a:=by
 unfold XN at h;split at h
 ·rename_i a g;exact ⟨σ,a,r,aZ r g rfl,h⟩
 ·rename_i i p g;obtain ⟨a,rfl,h⟩:=h;exact ⟨σ.rf i (.ad a),a,r.rf (Ob g) rfl,aZ r g rfl,h⟩
 ·rename_i a g;exact ⟨σ,a,r,aZ r g rfl,h⟩
 ·exact h.elim
theorem jU (r:Rel σ E):∀(l:List Operand) {K:List Value->Prop},xV σ l K->∃us,l.map (ev E)=us/\K us
 |[],_,h=>⟨[],rfl,h⟩
 |x::l,K,h=>by
  unfold xV at h;split at h
  ·rename_i v A;obtain ⟨us,g,w⟩:=jU r l h;exact ⟨v::us,by rw [xw,g,aZ r rfl A],w⟩
  ·exact h.elim
def CP (P:Program) (E:En) (F:PH) (o:Oper) (K:RK):Prop:=
 ∃σ nv ck v,RD P E F o v/\Rel σ E/\iZ σ.T nv v/\(match ck with|none=>∀F,RD P E F o v|some c=>c F/\∀F':PH,c F'->RD P E F' o v)/\K σ nv ck
theorem CP.pure {K:RK} {nv:NV} {v:Value} (g:∀F,RD P E F o v) (r:Rel σ E) (h:K σ nv I) (w:iZ σ.T nv v):CP P E F o K:=⟨σ,nv,I,v,g F,r,w,g,h⟩
theorem CP.chk {K:RK} {nv:NV} {v:Value} {c:PH->Prop} (w:c F) (A:∀g,c g->RD P E g o v) (r:Rel σ E) (h:K σ nv (V c)) (B:iZ σ.T nv v):CP P E F o K:=⟨σ,nv,V c,v,A F w,r,B,⟨w,A⟩,h⟩
def GU (P:Program) (E:En) (o:Oper) (K:NV->Prop):Prop:=∃nv v,(∀F,RD P E F o v)/\(∀T,iZ T nv v)/\K nv
theorem GU.mk {K:NV->Prop} {nv:NV} {v:Value} (r:∀F,RD P E F o v) (h:K nv) (g:∀T,iZ T nv v:=by exact λ_=>rfl):GU P E o K:=⟨nv,v,r,g,h⟩
theorem TE {op:BinOp} {k:IntKind} {a b:Int} {t C:TypeId} {A:Bool} {K:NV->Prop} (h:ZO op k a b A K) (g:o.op=.binOp op t x y C) (w:ev E x=.int k a) (r:ev E y=.int k b):GU P E o K:=by
 cases op<;>simp only [ZO] at h
 case add=>exact .mk (λF=>qfS g w r) h
 case sub=>exact .mk (λF=>qfT g w r) h
 case mul=>exact .mk (λF=>qfU g w r) h
 case quo=>
  cases A
  ·exact .mk (λF=>QQ g w r h.1) h.2
  ·simp only at h;split at h
   ·rename_i B;exact .mk (λF=>QQ g w r (ζ B)) h
   ·exact h.elim
 case rem=>
  cases A
  ·exact .mk (λF=>QR g w r h.1) h.2
  ·simp only at h;split at h
   ·rename_i B;exact .mk (λF=>QR g w r (ζ B)) h
   ·exact h.elim
 case and=>exact .mk (λF=>qfV g w r) h
 case or=>exact .mk (λF=>aaE g w r) h
 case xor=>exact .mk (λF=>qfW g w r) h
 case andNot=>exact .mk (λF=>KU g w r) h
 case lss=>exact .mk (λF=>qfX g w r) h
 case leq=>exact .mk (λF=>qfY g w r) h
 case gtr=>exact .mk (λF=>qfZ g w r) h
 case geq=>exact .mk (λF=>qf0 g w r) h
 case eql=>exact .mk (λF=>qf1 g w r) h
 case neq=>exact .mk (v:=.bool (decide (a≠b))) (λF=>by
  have:=qf3 (P:=P) (F:=F) g w r;rw [show (a !=b)=decide (a≠b) by rw [wi];simp] at this
  exact this) h
theorem TF {op:BinOp} {k k':IntKind} {a b:Int} {t C:TypeId} {g:Bool} {K:NV->Prop} (h:ZN op k a b g K) (r:o.op=.binOp op t x y C) (A:ev E x=.int k a) (w:ev E y=.int k' b):GU P E o K:=by
 cases op<;>simp only [ZN] at h
 case shl=>
  cases g
  ·exact .mk (λF=>QS r A w h.1) h.2
  ·simp only at h;split at h
   ·rename_i B;exact .mk (λF=>QS r A w (ζ B)) h
   ·exact h.elim
 case shr=>
  cases g
  ·exact .mk (λF=>QT r A w h.1) h.2
  ·simp only at h;split at h
   ·rename_i B;exact .mk (λF=>QT r A w (ζ B)) h
   ·exact h.elim
theorem xY {w:VW} {b:Bool} (h:w.tv=V b):w.val=V (.bool b):=by cases w<;>simp [VW.tv] at h<;>subst h<;>rfl
theorem jV {m:Nat} {t:TypeId} {u:Value} {b:Bool} {F:PH} {g w:Array TypeId} {v:Bool} (r:P.underlying t=V (.func g w v)) (h:xU u b):pn P (Op.equalIn (m+1) t u .nilFunc) F b:=by simp only [Op.equalIn,am];refine ⟨_,(az r _).2 rfl,?_⟩;rcases h with ⟨rfl,rfl⟩|⟨⟨f,x,y,rfl⟩,rfl⟩<;>rfl
theorem Od {t D:TypeId} {u:Value} {b:Bool} {F:PH} {C G:Array TypeId} {v:Bool} (r:o.op=.binOp .eql t x y D) (A:ev E x=u) (w:ev E y=.nilFunc) (B:P.underlying t=V (.func C G v)) (h:xU u b):RD P E F o (.bool b):=by
 have g:=h;rcases h with ⟨rfl,rfl⟩|⟨⟨f,z,c,rfl⟩,rfl⟩
 ·exact jP r A w (bj rfl) (jV B g) rfl
 ·exact jP r A w (bj rfl) (jV B g) rfl
theorem Oe {t D:TypeId} {u:Value} {b:Bool} {F:PH} {C G:Array TypeId} {v:Bool} (r:o.op=.binOp .neq t x y D) (A:ev E x=u) (w:ev E y=.nilFunc) (B:P.underlying t=V (.func C G v)) (h:xU u b):RD P E F o (.bool (!b)):=by
 have g:=h;rcases h with ⟨rfl,rfl⟩|⟨⟨f,z,c,rfl⟩,rfl⟩
 ·exact jQ r A w (bj rfl) (jV B g) rfl
 ·exact jQ r A w (bj rfl) (jV B g) rfl
theorem LJ {op:BinOp} {t J:TypeId} {K:NV->Prop} (h:LF P σ op t x y K) (r:Rel σ E) (B:o.op=.binOp op t x y J):GU P E o K:=by
 unfold LF at h;split at h
 ·rename_i k a M b w g;split at h
  ·exact TF h B (vn r w) (vn r g)
  ·split at h
   ·rename_i L;obtain rfl:=ζ L;exact TE h B (vn r w) (vn r g)
   ·exact h.elim
 ·rename_i c d w g;split at h
  ·exact .mk (λF=>Tv B (vn r w) (vn r g) h.1) h.2
  ·exact .mk (λF=>Tw B (vn r w) (vn r g)) h
  ·exact .mk (λF=>Tx B (vn r w) (vn r g)) h
  ·exact .mk (λF=>Th B (vn r w) (vn r g)) h
  ·exact .mk (λF=>Ti B (vn r w) (vn r g)) h
  ·exact h.elim
 ·rename_i a w g;split at h
  ·rename_i A;exact .mk (λF=>z6 B (aZ r w rfl) (vn r g) A) h
  ·rename_i A;exact .mk (λF=>z8 B (aZ r w rfl) (vn r g) A) h
  ·exact h.elim
 ·rename_i i p w g;split at h
  ·rename_i A;exact .mk (λF=>z6 B (aZ r w rfl) (vn r g) A) h
  ·rename_i A;exact .mk (λF=>z8 B (aZ r w rfl) (vn r g) A) h
  ·exact h.elim
 ·rename_i b l c w g;split at h
  ·rename_i A;exact .mk (λF=>CF (s:=⟨b,l,c⟩) B (vn r w) (vn r g) A) h
  ·rename_i A;exact .mk (λF=>CG (s:=⟨b,l,c⟩) B (vn r w) (vn r g) A) h
  ·exact h.elim
 ·rename_i c d w g;split at h
  ·rename_i A;obtain ⟨v,D,C⟩:=h;exact .mk (λF=>N0 B (vn r w) (vn r g) A (D F)) C
  ·rename_i A;obtain ⟨v,D,C⟩:=h;exact .mk (λF=>N7 B (vn r w) (vn r g) A (D F)) C
  ·exact h.elim
 ·rename_i u w g;split at h
  ·rename_i A;obtain ⟨v,D,C⟩:=h;exact .mk (λF=>Od B (aZ r w rfl) (vn r g) A D) C
  ·rename_i A;obtain ⟨v,D,C⟩:=h;exact .mk (λF=>Oe B (aZ r w rfl) (vn r g) A D) C
  ·exact h.elim
 ·split at h
  ·rename_i a b A H G;split at h
   ·exact .mk (λF=>Te B (aZ r rfl (xY H)) (aZ r rfl (xY G)) A) h
   ·exact .mk (λF=>Tf B (aZ r rfl (xY H)) (aZ r rfl (xY G)) A) h
   ·exact h.elim
  ·exact h.elim
end
section
variable {P:Program} {σ:Sy} {E:En} {F:PH} {x y:Operand} {o:Oper}
theorem YW {α g:Type} {f:α->g} {l:List α} {a b:g} (h:l.map f=[a,b]):∃x y,l=[x,y]/\f x=a/\f y=b:=by
 rcases l with _|⟨x,_|⟨y,_|⟨z,l⟩⟩⟩<;>simp at h
 exact ⟨x,y,rfl,h⟩
theorem YX {α g:Type} {f:α->g} {l:List α} {a b c:g} (h:l.map f=[a,b,c]):∃x y z,l=[x,y,z]/\f x=a/\f y=b/\f z=c:=by
 rcases l with _|⟨x,_|⟨y,_|⟨z,_|⟨u,l⟩⟩⟩⟩<;>simp at h
 exact ⟨x,y,z,rfl,h⟩
theorem eC {b:Bool} {K:Prop} (h:yY b K):b=mY/\K:=by cases b;exact h.elim;exact ⟨rfl,h⟩
theorem xZ {d:TypeDesc} (h:XR d=.agg):lq d=mY:=by cases d<;>simp [XR] at h<;>rfl
theorem qN {d:TypeDesc} (h:XR d≠.agg):lq d=mz:=by cases d<;>first|rfl|exact absurd rfl h
theorem Of {t:TypeId} {a:Addr} {K:NV->(PH->Prop)->Prop} (h:Ty P t a F K) (_:Rel σ E) (C:o.op=.load t x) (D:ev E x=.pointer (V a)):
  ∃nv v c,c F/\(∀g:PH,c g->RD P E g o v)/\(∀T,iZ T nv v)/\K nv c:=by
 unfold Ty at h;split at h
 ·exact h.elim
 ·rename_i d hd;split at h
  ·rename_i w;split at h
   ·rename_i n b G;obtain ⟨v,rfl,A,h⟩:=h;exact ⟨.sv (.c (.agg v)),.agg v,λF=>F.row a v,A,λg A=>NT C D hd (xZ w) G A,λ_=>rfl,h⟩
   ·exact h.elim
  ·rename_i w;obtain ⟨v,B,h⟩:=h;exact ⟨_,_,_,B,λg B=>NS C D hd (qN w) B,λ_=>tM _ v,h⟩
theorem iN {y:Option Operand} {g:Nat} {K:Nat->Prop} (h:xX σ y g K) (r:Rel σ E):∃l,dt (y.map (ev E)) g l/\K l:=by
 unfold xX at h;split at h
 ·exact ⟨g,xM,h⟩
 ·rename_i y;split at h
  ·rename_i k i w;split at h
   ·split at h
    ·rename_i hi;exact ⟨_,QW (vn r w) (ζ hi),h⟩
    ·exact h.elim
   ·exact ⟨_,QW (vn r w) h.1,h.2⟩
  ·exact h.elim
theorem tN {g:Nat->Option (Nat×Nat)} {n:Nat} (r:Rel σ E):∀(l:List (Nat×Operand)) (cs:Array Value) {K:Array Value->Prop},cs.size=n->XF σ g n l cs K->
  ∃res,Instr.fill g cs (l.map λp=>(p.1,ev E p.2))=V res/\K res
 |[],cs,K,_,h=>⟨cs,rfl,h⟩
 | (i,x)::l,cs,K,hn,h=>by
  unfold XF at h;split at h
  ·exact h.elim
  ·rename_i H s O;have one:∀{v:Value},ev E x=v->v.cells= #[v]->Nat.beq s 1=mY->Nat.blt H n=mY->XF σ g n l (cs.setIfInBounds H v) K->
     ∃res,Instr.fill g cs (((i,x)::l).map λp=>(p.1,ev E p.2))=V res/\K res:=by
    clear h;intro v Q R M J h;obtain rfl:=YF M;obtain ⟨res,D,B⟩:=tN r l _ (by simpa using hn) h;refine ⟨res,?_,B⟩;rw [xw];show Instr.fill g cs ((i,ev E x)::_)=_;rw [Q];exact QU O R (by rw [hn];exact J) D
   split at h
   ·rename_i c A;split at h
    ·rename_i J;obtain ⟨M,h⟩:=h;obtain ⟨res,D,B⟩:=tN r l _ (by rw [dK];exact hn) h;refine ⟨res,?_,B⟩;rw [xw];show Instr.fill g cs ((i,ev E x)::_)=_;rw [vn r A];exact QV O M (by rw [hn];exact J) D
    ·exact h.elim
   ·rename_i v C A;split at h
    ·rename_i D B;exact one (vn r A) (by cases v<;>first|rfl|exact absurd rfl (C _)) D B h
    ·exact h.elim
   ·exact h.elim
   ·rename_i w C N L;split at h
    ·rename_i v D B G;refine one (aZ r rfl G) ?_ D B h;cases A:σ.ov x<;>rw [A] at G<;>simp only [VW.val] at G<;>first|(cases G;done)|(cases G;rfl)|(exact absurd A (C _))|(exact absurd A (N _))|exact absurd A (L _)
    ·exact h.elim
variable {K:RK}
theorem CP.of (r:Rel σ E) (h:GU P E o λv=>K σ v I):CP P E F o K:=by obtain ⟨nv,v,w,A,g⟩:=h;exact .pure w r g (A _)
theorem LL (h:ZC P σ o F K) (r:Rel σ E):CP P E F o K:=by
 cases ho:o.op<;>simp only [ZC,ho] at h<;>try exact h.elim
 case move x=>exact .pure (λF=>Td ho rfl) r h (vb r x)
 case assign x=>exact .pure (λF=>KR ho rfl) r h (vb r x)
 case pick c a b=>
  split at h
  ·rename_i hc;exact .pure (λF=>xJ ho (aZ r hc rfl) (λ_=>rfl) (λh=>by cases h)) r h (vb r a)
  ·rename_i hc;exact .pure (λF=>xJ ho (aZ r hc rfl) (λh=>by cases h) (λ_=>rfl)) r h (vb r b)
  ·exact h.elim
 case nilCheck x=>
  split at h
  ·rename_i hw;refine .pure (λF=>qip ho (vn r hw)) r h ?_;show V1 _ _ _;rw [<- vn r hw];exact vb r x
  ·obtain ⟨M,a,L,g,h⟩:=lz h r;exact .pure (λF=>CD ho g) L h rfl
 case extract x i=>
  split at h
  ·rename_i vs hw;split at h
   ·rename_i v O;exact .pure (λF=>uY ho (vn r hw) O) r h (LI _ v)
   ·exact h.elim
  ·rename_i w hw;obtain ⟨v,O,h⟩:=h;exact .pure (λF=>uY ho (aZ r hw rfl) O) r h (tM _ v)
  ·exact h.elim
 case fieldAddr t x i=>
  split at h
  ·rename_i fs B;split at h
   ·rename_i f hf;split at h
    ·rename_i s b D;obtain ⟨M,a,L,g,h⟩:=lz h r;exact .pure (λF=>qih ho g B hf D (by omega)) L h rfl
    ·exact h.elim
   ·exact h.elim
  ·exact h.elim
 case load t x=>
  obtain ⟨M,a,L,g,h⟩:=lz h r;obtain ⟨nv,v,c,A,G,h3,h⟩:=Of h L ho g;exact .chk A G L h (h3 _)
 case indexAddr t x y=>
  split at h
  ·rename_i k i e H B;split at h
   ·rename_i a6 len cap s b g D;obtain ⟨a,rfl,A,G,h⟩:=h;exact .pure (λF=>qhx ho (vn r g) (vn r H) B D A (by exact_mod_cast G)) r h rfl
   ·exact h.elim
  ·rename_i k i n e H B;split at h
   ·rename_i s b D;obtain ⟨M,a,L,g,A,G,h⟩:=lz h r;exact .pure (λF=>qhy ho g (vn r H) B D A (by exact_mod_cast G)) L h rfl
   ·exact h.elim
  ·exact h.elim
 case index t x y=>
  split at h
  ·rename_i s k i g H B;obtain ⟨A,G,h3,v,rfl,h⟩:=h;exact .pure (λF=>CH ho (vn r g) (vn r H) B A (by exact_mod_cast G)) r h rfl
  ·rename_i cs k i n e g H B;split at h
   ·rename_i d s b hd D;split at h
    ·exact h.elim
    ·rename_i J;obtain ⟨A,G,v,O,h⟩:=h;exact .pure (λF=>Aa ho (vn r g) (vn r H) B D hd (qN J) A (by exact_mod_cast G) O) r h (tM _ v)
   ·exact h.elim
  ·exact h.elim
 case field t x i=>
  split at h
  ·rename_i cs fs g B;split at h
   ·rename_i f hf;split at h
    ·rename_i d s b hd D;split at h
     ·rename_i J;exact .pure (λF=>KY ho (vn r g) B hf hd (xZ J) D) r h rfl
     ·rename_i J;obtain ⟨v,O,h⟩:=h;exact .pure (λF=>KX ho (vn r g) B hf hd (qN J) O) r h (tM _ v)
    ·exact h.elim
   ·exact h.elim
  ·exact h.elim
 case binOp op t x y t'=>exact .of r (LJ h r ho)
 case unOp op t x=>
  split at h
  ·rename_i b g;exact .pure (λF=>KV ho (aZ r g rfl)) r h rfl
  ·rename_i i b g;exact .pure (λF=>KV ho (aZ r g rfl)) r h rfl
  ·rename_i i p d g;refine .pure (v:=.bool (@decide (¬p) (@instDecidableNot p d))) (λF=> ?_) r h rfl;have:=KV (P:=P) (F:=F) ho (aZ r g rfl);rw [show (!@decide p d)= @decide (¬p) (@instDecidableNot p d) by cases d<;>rfl] at this;exact this
  ·rename_i k a g;exact .pure (λF=>qf4 ho (vn r g)) r h rfl
  ·exact h.elim
 case convert t t' x=>
  split at h
  ·rename_i k a d k' g B W;exact .pure (λF=>GM ho (vn r g) B W) r h rfl
  ·rename_i b l c e g B W;split at h
   ·rename_i he;obtain ⟨s,hs,h⟩:=h;exact .chk hs (λF' hs=>LC ho (vn r g) B W he ⟨_,_,_,rfl⟩ hs) r h rfl
   ·exact h.elim
  ·exact h.elim
 case slice t x lo hi mx=>
  split at h
  ·rename_i e B;split at h
   ·rename_i b len cap sz z g D;obtain ⟨l,hl,h⟩:=iN h r;obtain ⟨u,N,A,G,h⟩:=iN h r;exact .pure (λF=>GO (s:=⟨b,len,cap⟩) ho (vn r g) B D hl N A G) r h rfl
   ·exact h.elim
  ·rename_i B;split at h
   ·rename_i s g;obtain ⟨l,hl,h⟩:=iN h r;obtain ⟨u,N,A,G,h⟩:=iN h r;exact .pure (λF=>CJ ho (vn r g) B hl N A G) r h rfl
   ·exact h.elim
  ·rename_i n e B;split at h
   ·rename_i sz z D;obtain ⟨M,a,L,g,h⟩:=lz h r;exact .pure (λF=>u7 ho g B D xM xM (yv _) (qX _)) L h rfl
   ·rename_i sz z D a5;obtain ⟨M,a,L,g,h⟩:=lz h r;obtain ⟨l,hl,h⟩:=iN h L;obtain ⟨u,N,A,G,h⟩:=iN h L;exact .pure (λF=>u7 ho g B D hl N A G) L h rfl
   ·exact h.elim
  ·rename_i e m B;split at h
   ·rename_i b len cap sz z k i k' m' g D R hm;obtain ⟨l,hl,h0,a3,A,G,h3,h⟩:=iN h r;cases hi with
    |none=>simp at R
    |some hi=>simp only [Vz,Option.some.injEq] at R;exact .pure (λF=>CI (s:=⟨b,len,cap⟩) ho (vn r g) B D hl (vn r R) (vn r hm) h0 a3 A G h3) r h rfl
   ·exact h.elim
  ·exact h.elim
 case build t parts=>
  split at h
  ·rename_i fs z B D;obtain ⟨J,h⟩:=eC h;obtain ⟨res,A,h⟩:=tN r _ _ rfl h;exact .pure (λF=>qhz ho B D J (by simp) A) r h rfl
  ·rename_i n e z B D;split at h
   ·rename_i s b hs;obtain ⟨res,A,h⟩:=tN r _ _ rfl h;exact .pure (λF=>qhW ho B D hs (by simp) A) r h rfl
   ·exact h.elim
  ·exact h.elim
 case makeFunc fn first cap=>
  cases fn<;>simp only at h<;>try exact h.elim
  obtain ⟨us,A,h⟩:=jU r _ h;obtain ⟨vs,G,h⟩:=jU r _ h;have a1:first.map (ev E)=us.toArray:=by rw [<- A,<- Array.toList_map,Array.toArray_toList]
  have a4:cap.map (ev E)=vs.toArray:=by rw [<- G,<- Array.toList_map,Array.toArray_toList]
  exact .pure (λF=>CE ho a1 a4) r h rfl
 case lookup t x y ok=>
  split at h
  ·rename_i u v kt e N O B;split at h
   ·obtain ⟨q,b,A,h⟩:=h;exact .chk A (λF' A=>Ad ho (aZ r rfl N) (aZ r rfl O) A) r h rfl
   ·obtain ⟨q,A,h⟩:=h;exact .chk A (λF' A=>Ad ho (aZ r rfl N) (aZ r rfl O) A) r h (tM _ q)
  ·exact h.elim
 case entry x=>
  split at h
  ·rename_i u N;obtain ⟨w,A,h⟩:=h;exact .chk A (λF' A=>N8 ho (aZ r rfl N) A) r h rfl
  ·exact h.elim
 case call c=>
  obtain ⟨a2,Q,ts⟩:=c;obtain ⟨Q⟩:=Q;obtain ⟨ts⟩:=ts;cases a2<;>simp only at h<;>try exact h.elim
  rename_i b;split at h
  ·rename_i bs l cp t C;obtain ⟨x,rfl,g⟩:=Za.1 C;split at h
   ·rename_i B;exact .pure (λF=>NQ (s:=⟨bs,l,cp⟩) ho (vn r g) B) r h rfl
   ·exact h.elim
  ·rename_i s t C;obtain ⟨x,rfl,g⟩:=Za.1 C;split at h
   ·rename_i B;exact .pure (λF=>KW ho (vn r g) B) r h rfl
   ·exact h.elim
  ·rename_i m t C;obtain ⟨x,rfl,g⟩:=Za.1 C;obtain ⟨v,A,h⟩:=h;exact .chk A (λF' A=>LD ho (vn r g) A) r h rfl
  ·rename_i bs l cp t C;obtain ⟨x,rfl,g⟩:=Za.1 C;split at h
   ·rename_i B;exact .pure (λF=>NR (s:=⟨bs,l,cp⟩) ho (vn r g) B) r h rfl
   ·exact h.elim
  ·rename_i k a k' b' C;obtain ⟨x,y,rfl,g,H⟩:=YW C;obtain ⟨J,X⟩:=eC h;obtain rfl:=ζ J;exact .pure (λF=>Tj ho (vn r g) (vn r H)) r X rfl
  ·rename_i k a k' b' C;obtain ⟨x,y,rfl,g,H⟩:=YW C;obtain ⟨J,X⟩:=eC h;obtain rfl:=ζ J;exact .pure (λF=>Tm ho (vn r g) (vn r H)) r X rfl
  ·rename_i k a k' b' a0 c' C;obtain ⟨x,y,z,rfl,g,H,D⟩:=YX C;obtain ⟨J,X⟩:=eC h;obtain ⟨rfl,rfl⟩:=ζ J;exact .pure (λF=>Tn ho (vn r g) (vn r H) (vn r D)) r X rfl
  ·rename_i k a k' b' a0 c' C;obtain ⟨x,y,z,rfl,g,H,D⟩:=YX C;obtain ⟨J,X⟩:=eC h;obtain ⟨rfl,rfl⟩:=ζ J;exact .pure (λF=>To ho (vn r g) (vn r H) (vn r D)) r X rfl
  ·exact h.elim
end
theorem TG {F:PH} {b:Nat} {o:Obj} (h:F b=I):F.le (F.set b o):=λx u g=>by
 have:x≠b:=λe=>by rw [e,h] at g;cases g
 rw [CM _ _ this];exact g
section
variable {P:Program} {σ:Sy} {E:En} {F:PH} {x y z:Operand} {o:Oper}
def KK (F:PH) (E:En) (o:Oper) (K:EK) (E':En) (F':PH):Prop:=∃fl σ',(fl=mY->F.le F')/\Rel σ' E'/\(∀t,o.dst≠V t->E' t=E t)/\K fl σ' F'
def TH (P:Program) (E:En) (F:PH) (o:Oper) (K:EK):Prop:=aG P (execOp (ev E) o) F (bJ P (KK F E o K) o E)
theorem qO {d:Option Tmp} {v:Value} {t:Nat} (h:d≠V t):cR E d v t=E t:=by
 cases d with
 |none=>rfl
 |some d=>simp only [cR,upd,ln (λe:t=d=>h (by rw [e]))];rfl
variable {K:EK}
theorem KK.mk {nv:NV} {v:Value} {g:PH} {w:Bool} (r:Rel σ E) (h:K w (σ.putO o.dst nv) g) (A:iZ σ.T nv v) (C:w=mY->F.le g):KK F E o K (cR E o.dst v) g:=
 ⟨w,_,C,r.putO A,λ_ B=>qO B,h⟩
theorem KK.f {nv:NV} {v:Value} {g:PH} (r:Rel σ E) (h:K mz (σ.putO o.dst nv) g) (w:iZ σ.T nv v):KK F E o K (cR E o.dst v) g:=KK.mk r h w (λh=>by cases h)
theorem iO {w:Obj} {s:Nat->SV} {v:Nat->Value} (h:XC σ o.dst w s F K) (r:Rel σ E) (A:∀b,V1 σ.T (s b) (v b)):∀b,F b=I->KK F E o K (cR E o.dst (v b)) (F.set b w):=
 λb g=>KK.mk r (Ya (h b g)) (A b) (λ_=>TG g)
theorem Og {d:Option Tmp} {t:TypeId} {v:Value} {K:Sy->Prop} (h:Ah P σ d t v K) (r:Rel σ E):∃g,Rel g (cR E d v)/\K g:=by
 unfold Ah at h;split at h
 ·exact ⟨σ,r,h⟩
 ·rename_i d;split at h
  ·split at h
   ·obtain ⟨rfl,h⟩:=h;exact ⟨_,r.put (show iZ σ.T (.sv (.c (.tuple _))) _ from rfl),h⟩
   ·obtain ⟨a,rfl,h⟩:=h;exact ⟨_,r.put (show iZ σ.T (.sv (.c (.tuple _))) _ from rfl),h⟩
   ·obtain ⟨a,b,rfl,h⟩:=h;exact ⟨_,r.put (show iZ σ.T (.sv (.c (.tuple _))) _ from rfl),h⟩
   ·obtain ⟨a,b,c,rfl,h⟩:=h;exact ⟨_,r.put (show iZ σ.T (.sv (.c (.tuple _))) _ from rfl),h⟩
   ·obtain ⟨a,b,c,e,rfl,h⟩:=h;exact ⟨_,r.put (show iZ σ.T (.sv (.c (.tuple _))) _ from rfl),h⟩
   ·obtain ⟨a,b,c,e,f,rfl,h⟩:=h;exact ⟨_,r.put (show iZ σ.T (.sv (.c (.tuple _))) _ from rfl),h⟩
   ·exact h.elim
  ·obtain ⟨a,rfl,h⟩:=h;exact ⟨_,r.put (tM _ a),h⟩
theorem CQ {t:TypeId} {v:Value} {w:PH} (h:Ah P σ o.dst t v λσ=>K mz σ w) (r:Rel σ E):KK F E o K (cR E o.dst v) w:=by obtain ⟨g,A,h⟩:=Og h r;exact ⟨mz,g,(λh=>by cases h),A,λ_ B=>qO B,h⟩
theorem qP {w:VW} {v:Value} (g:w.val=V v) (h:∀c,w≠.c (.agg c)) (r:∀u,w≠.any u):v.cells= #[v]:=by
 cases w<;>simp only [VW.val] at g<;>first|(cases g;done)|(cases g;rfl)|exact absurd rfl (r _)|skip
 rename_i u;cases g;cases v<;>first|rfl|exact absurd rfl (h _)
theorem LM {w:VW} {v:Value} (g:w.val=V v) (B:∀c,w≠.c (.agg c)) (r:∀u,w≠.any u) (C:∀u,w≠.c (.tuple u)) (D:∀u,w≠.vt u) (A:w≠.und):ak v:=by
 cases w<;>simp only [VW.val] at g<;>first|(cases g;done)|exact absurd rfl (r _)|exact absurd rfl (D _)|exact absurd rfl A|skip
 all_goals cases g
 case c.refl=>exact ⟨λc e=>B c (by rw [e]),λc e=>C c (by rw [e])⟩
 all_goals exact ⟨(λ_ h=>by cases h),(λ_ h=>by cases h)⟩
theorem FD (r:Rel σ E):∀(l:List (Nat×Operand)) (k:Nat) {us:List Value},Oa σ k l=V us->(l.map λp=>(p.1,ev E p.2))=Fw k us/\NY us/\us.length=l.length
 |[],k,us,h=>by cases h;exact ⟨rfl,trivial,rfl⟩
 | (i,x)::l,k,us,h=>by
  unfold Oa at h;split at h
  ·cases h
  ·cases h
  ·rename_i hi B A;split at h
   ·rename_i v vs g G;cases h;obtain ⟨D,w,C⟩:=FD r l _ G;obtain rfl:=YF hi;refine ⟨?_,⟨qP g (λc e=>B c e) (λu e=>A u e),w⟩,by simp [C]⟩;rw [xw,D];show (i,ev E x)::_=(i,v)::_;rw [aZ r rfl g]
   ·cases h
  ·cases h
theorem LN {t:TypeId} {s:ByteArray} {K:En->PH->Prop} (g:o.op=.range t x) (w:ev E x=.string s) (r:P.underlying t=V .string) (h:∀b,F b=I->K (cR E o.dst (.pointer (V ⟨b,0,I⟩))) (F.set b (.stringIter s 0))):
  aG P (execOp (ev E) o) F (bJ P K o E):=by
 simp only [execOp,g,w,Instr.range,aD,bX r,aL,newObj,aG,bJ];exact h
theorem LO {t:TypeId} {v:Value} {K:En->PH->Prop} (g:o.op=.range t x) (w:ev E x=v) (h:aG P (Instr.range t v) F λr A=>K (cR E o.dst r) A):aG P (execOp (ev E) o) F (bJ P K o E):=by simp only [execOp,g,w,aD,aL,bJ];exact h
theorem TJ {v:Value} {is:Bool} {K:En->PH->Prop} (g:o.op=.next x is) (w:ev E x=v) (h:aG P (Instr.next v is o.type) F λr A=>K (cR E o.dst r) A):aG P (execOp (ev E) o) F (bJ P K o E):=by simp only [execOp,g,w,aD,aL,bJ];exact h
theorem LP {t:TypeId} {u v q:Value} {K:En->PH->Prop} (g:o.op=.insert t x y z) (B:ev E x=u) (w:ev E y=v) (A:ev E z=q)
  (h:aG P (Instr.mapUpdate t u v q) F λ_ r=>K (cR E o.dst undef) r):aG P (execOp (ev E) o) F (bJ P K o E):=by
 subst B w A;have:execOp (ev E) o=execOp (ev E) {o with op:=.mapUpdate t x y z}:=by simp only [execOp,g]
 rw [this];exact oV (o:={o with op:=.mapUpdate t x y z}) rfl rfl rfl rfl h
theorem LQ {g:Array TypeId} {u v:Value} {K:En->PH->Prop} (w:o.op=.call ⟨.builtin .delete,#[x,y],g⟩) (C:ev E x=u) (B:ev E y=v) (h:aG P (Builtin.delete_ g o.type #[u,v]) F λr A=>K (cR E o.dst r) A):
  aG P (execOp (ev E) o) F (bJ P K o E):=by
 simp [execOp,w,resolve,C,B,invoke,builtin,bJ];exact h
theorem LU (h:ZA P σ o F K) (r:Rel σ E):TH P E F o K:=by
 cases ho:o.op<;>simp only [ZA,ho] at h<;>try exact h.elim
 case alloc t=>
  split at h
  ·rename_i z D;exact NU ho D (iO h r (λ_=>rfl))
  ·exact h.elim
 case box t x=>
  split at h
  ·rename_i c Q;exact KZ ho (vn r Q) (iO h r (λ_=>rfl))
  ·rename_i v Q;obtain ⟨J,h⟩:=h;rw [<- J] at h;exact KZ ho (aZ r Q rfl) (iO h r (λ_=>rfl))
  ·rename_i G L;split at h
   ·rename_i v A;have J:v.cells= #[v]:=qP A (λc e=>G c e) (λu e=>L u e);rw [<- J] at h;exact KZ ho (aZ r rfl A) (iO h r (λ_=>rfl))
   ·exact h.elim
 case buildSlice t m parts=>
  split at h
  ·rename_i e ht;split at h
   ·rename_i s b z D O;split at h
    ·rename_i hm hs h0;have X:m*s<=16777216:=Ze hm;have C:z.cells.size=s:=YF hs;split at h
     ·rename_i l G L hl;obtain rfl:=YF G;obtain ⟨e1,e2,e3⟩:=FD r _ _ hl;exact iJ ho ht D X O (by simpa using e1) (NZ (by rw [e3];exact YF L) rfl C e2) (by rw [C]) (iO h r (λ_=>rfl))
     ·split at h
      ·rename_i c a2 hn;obtain ⟨a3,h⟩:=h;obtain ⟨p,hp,a0⟩:=Za.1 a2;obtain ⟨i,x⟩:=p;simp only [Yq] at a0;obtain ⟨rfl,hx⟩:=a0;exact iJ (vs:=[(0,.agg c)]) ho ht D X O (by simp [hp,vn r hx]) (GP a3 C h0) (by rw [C]) (iO h r (λ_=>rfl))
      ·obtain ⟨res,e1,h⟩:=tN r _ _ (by rw [<- qJ _ (by rw [C];exact h0)];simp [Builtin.zeroCells,C]) h;refine iJ (vs:=parts.toList.map λp=>(p.1,ev E p.2)) ho ht D X O (by simp) (cells:=res) ?_ (by rw [C]) (iO h r (λ_=>rfl));rw [qJ _ (by rw [C];exact h0)];exact e1
    ·exact h.elim
   ·exact h.elim
  ·exact h.elim
 case store t x y=>
  obtain ⟨a5,a,r',hx,h⟩:=lz h r;have st:∀{v:Value} {b:Nat},ev E y=v->vA P t=V (1,b)->v.cells= #[v]->ak v->qW F a v (λF=>K mz (a5.putO o.dst (.sv .und)) F)->TH P E F o K:=by intro v b W D J a4 ⟨c,e,G,L,h3,h4⟩;exact K9 ho hx W D J rfl a4 L G h3 (KK.f r' (Ya h4) rfl)
  split at h
  ·rename_i v n b W D;obtain ⟨G,L,c,e,h3,h4,h5,h6⟩:=h;refine La ho hx (vn r' W) D G L (λh0=> ?_) h4 h3 h5 (KK.f r' (Ya h6) rfl);have:v.toList.length=0:=by rw [h0];rfl
   simp at this;simp [this] at G
  ·exact h.elim
  ·rename_i v b a1 a6 W D;exact st (vn r' W) D (qP (w:=.c v) rfl (λc e=>a1 c (by cases e;rfl)) (λu e=>by cases e)) (LM (w:=.c v) rfl (λc e=>a1 c (by cases e;rfl)) (λu e=>by cases e) (λc e=>a6 c (by cases e;rfl)) (λu e=>by cases e) (λe=>by cases e)) h
  ·rename_i v b W D;exact st (aZ r' W rfl) D h.2.1 h.1 h.2.2
  ·exact h.elim
  ·exact h.elim
  ·rename_i b D L h3 h4 h5 h6 h7;split at h
   ·rename_i v A;exact st (aZ r' rfl A) D (qP A (λc e=>L c e) (λu e=>h5 u e)) (LM A (λc e=>L c e) (λu e=>h5 u e) (λc e=>h3 c e) (λu e=>h6 u e) (λe=>h7 e)) h
   ·exact h.elim
  ·exact h.elim
 case range t x=>
  split at h
  ·rename_i s ht hx;exact LN ho (vn r hx) ht (iO h r (λ_=>rfl))
  ·split at h
   ·rename_i v A;exact LO ho (aZ r rfl A) (dg _ _ h λu M ⟨b,N,h⟩=>by subst N;exact KK.f r h rfl)
   ·exact h.elim
  ·exact h.elim
 case next x is=>
  split at h
  ·rename_i v A;exact TJ ho (aZ r rfl A) (dg _ _ h λu M ⟨b,N,h⟩=>by subst N;exact KK.f r h rfl)
  ·exact h.elim
 case makeSlice t x y=>
  split at h
  ·rename_i u v H A;exact Ac ho (aZ r rfl H) (aZ r rfl A) (dg _ _ h λu M ⟨b,N,h⟩=>by subst N;exact KK.f r h rfl)
  ·exact h.elim
 case makeMap t q=>
  cases q<;>simp only at h<;>try exact h.elim
  exact CN ho (iO h r (λ_=>rfl))
 case mapUpdate t x y z=>
  split at h
  ·rename_i u v w H A Q;exact oV ho (aZ r rfl H) (aZ r rfl A) (aZ r rfl Q) (dg _ _ h λu M h=>KK.f r h rfl)
  ·exact h.elim
 case insert t x y z=>
  split at h
  ·rename_i u v w H A Q;exact LP ho (aZ r rfl H) (aZ r rfl A) (aZ r rfl Q) (dg _ _ h λu M h=>KK.f r h rfl)
  ·exact h.elim
 case defer c=>
  obtain ⟨R,B,ts⟩:=c;obtain ⟨B⟩:=B;cases R with
  |value g=>
   obtain ⟨us,G,h⟩:=jU r _ h;split at h
   ·rename_i f a b hg;exact NX ho (vn r hg) (by rw [<- G];simp) h.1 (KK.f r h.2 rfl)
   ·exact h.elim
  |_=>exact h.elim
 case call c=>
  obtain ⟨R,B,ts⟩:=c;obtain ⟨B⟩:=B;cases R with
  |invoke=>exact h.elim
  |builtin b=>
   simp only at h;split at h
   ·split at h
    ·rename_i x y u v H A;exact Lc ho (aZ r rfl H) (aZ r rfl A) (dg _ _ h λu M ⟨b,N,h⟩=>by subst N;exact KK.f r h rfl)
    ·exact h.elim
   ·split at h
    ·rename_i x y u v H A;exact Tq ho (aZ r rfl H) (aZ r rfl A) (dg _ _ h λu M ⟨b,N,h⟩=>by subst N;exact KK.f r h rfl)
    ·exact h.elim
   ·split at h
    ·rename_i x y u v H A;exact LQ ho (aZ r rfl H) (aZ r rfl A) (dg _ _ h λu M h=>KK.f r h True.intro)
    ·exact h.elim
   ·exact h.elim
  |value g=>
   have cF:∀(h:xV σ B λvs=>(match σ.ov g with
     | .c (.func (.func f) a b)=>yY (aF P f) (aj P f (a++vs.toArray++b) F λv F=>Ah P σ o.dst o.type v λσ=>K mz σ F)
     | .any u=>∃(k:Nat) (a b:Array Value),u=.func (.func k) a b/\aF P k=mY/\aj P k (a++vs.toArray++b) F λv F=>Ah P σ o.dst o.type v λσ=>K mz σ F
     |_=>False)),TH P E F o K:=by
    intro h;obtain ⟨us,G,h⟩:=jU r _ h;split at h
    ·rename_i f a b hg;obtain ⟨J,h⟩:=eC h;exact Fv ho (vn r hg) J (by rw [<- G];simp) (h.mono λv M h=>CQ h r)
    ·rename_i u hg;obtain ⟨f,a,b,rfl,J,h⟩:=h;exact Fv ho (aZ r hg rfl) J (by rw [<- G];simp) (h.mono λv M h=>CQ h r)
    ·exact h.elim
   cases g with
   |func f=>obtain ⟨us,G,h⟩:=jU r _ h;obtain ⟨J,h⟩:=eC h;exact Tp ho J (by rw [<- G];simp) (h.mono λv M h=>CQ h r)
   |_=>exact cF h
end
section
variable {P:Program} {σ:Sy} {E:En} {F:PH} {n:Nat} {ops:Array Oper}
def Fr (M:List Nat) (E E':En):Prop:=∀t,pq M t=mz->E' t=E t
theorem Ai {a b:List Nat} {t:Nat}:pq (a++b) t=mz↔pq a t=mz/\pq b t=mz:=by
 induction a with
 |nil=>simp [pq]
 |cons x a ih=>simp only [zK,pq];cases Nat.beq t x<;>simp [ih]
theorem Fr.refl {M:List Nat} {E:En}:Fr M E E:=λ_ _=>rfl
theorem Fr.trans {M:List Nat} {E r g:En} (h:Fr M E r) (A:Fr M r g):Fr M E g:=λt w=>(A t w).trans (h t w)
theorem Fr.left {a b:List Nat} {E g:En} (h:Fr a E g):Fr (a++b) E g:=λt r=>h t (Ai.1 r).1
theorem Fr.right {a b:List Nat} {E g:En} (h:Fr b E g):Fr (a++b) E g:=λt r=>h t (Ai.1 r).2
theorem tO {M:List Nat} {d:Nat} (h:d∈M) {t:Nat} (g:pq M t=mz):t≠d:=by
 induction M with
 |nil=>cases h
 |cons x M ih=>
  simp only [pq] at g;intro e;subst e;rcases tD.1 h with rfl|h
  ·have:Nat.beq t t=mY:=by simp
   rw [this] at g;cases g
  ·cases hb:Nat.beq t x<;>rw [hb] at g
   ·exact ih h g rfl
   ·cases g
theorem CR {M:List Nat} {d:Option Tmp} {v:Value} (h:∀t,d=V t->t∈M):Fr M E (cR E d v):=λt g=>qO λe=>tO (h t e) g rfl
theorem Aj {l:List Oper} {o:Oper} {d:Nat} (g:o∈l) (hd:o.dst=V d):d∈LG l:=by
 induction l with
 |nil=>cases g
 |cons x l ih=>
  unfold LG;rcases tD.1 g with rfl|g
  ·rw [hd];exact XA ..
  ·split
   ·exact Vm _ (ih g)
   ·exact ih g
def QK (M:List Nat) (E0:En) (K:CK):Exit->En->PH->Prop:=λex E F=>(∃σ,Rel σ E/\K ex σ F)/\Fr M E0 E
inductive GOk (ops:Array Oper) (σ:Sy) (E:En) (o:Oper):G->Prop
 |go (h:Region.wanted o (yE ops E)=mY):GOk ops σ E o .go
 |no (h:Region.wanted o (yE ops E)=mz):GOk ops σ E o .no
 |split (i:Nat) (b:SB) (want v:Bool) (hi:σ.T i=V b) (hv:b.v=.bool v) (h:Region.wanted o (yE ops E)=(v==want)):GOk ops σ E o (.split i b want)
 |bad:GOk ops σ E o .bad
theorem Q7 {j t:Nat} (g:(ops[j]?).bind (·.dst)=V t):yE ops E j=(match E t with| .bool b=>V b|_=>I):=by unfold yE;rw [g]<;>rfl
theorem cZ (r:Rel σ E) {t:Nat} {w:VW} {v:Value} (h:σ.vw t=w) (g:w.val=V v):E t=v:=Q6 (r.val t) (by rw [<- h] at g;exact g)
theorem CS (r:Rel σ E) (o:Oper):GOk ops σ E o (Yb ops σ o):=by
 unfold Yb;split
 ·rename_i C;exact .go (by unfold Region.wanted;rw [C])
 ·rename_i j g C;have w:∀y,Region.wanted o y=(y j==V g):=λy=>by unfold Region.wanted;rw [C]
  split
  ·rename_i G;refine .no ?_;rw [w];unfold yE;rw [G];rfl
  ·rename_i t D;have B:∀{b:Bool},E t=.bool b->Region.wanted o (yE ops E)=(b==g):=by intro b B;rw [w,Q7 D,B];cases b<;>cases g<;>rfl
   split
   ·rename_i b h;have:=B (cZ r h rfl);split
    ·rename_i A;exact .go (by rw [this];exact A)
    ·rename_i A;exact .no (by rw [this];exact A)
   ·rename_i h;refine .no ?_;rw [w,Q7 D,cZ r h rfl];rfl
   ·rename_i i b h;exact .split i _ g b (LH h) rfl (B (cZ r h rfl))
   ·rename_i i p d h;exact .split i _ g _ (Oc h) rfl (B (cZ r h rfl))
   ·exact .bad
theorem LV {b:SB} {v:Bool} {f:Bool->Prop} (h:Zz b f) (g:b.v=.bool v):f v:=by
 unfold Zz at h;split at h
 ·rename_i b;obtain rfl:b=v:=by simpa [SB.v] using g
  cases b
  ·exact h.2 rfl
  ·exact h.1 rfl
 ·rename_i p d;have: @decide p d=v:=by simpa [SB.v] using g
  cases v
  ·exact h.2 (ι this)
  ·exact h.1 (ζ this)
 ·exact h.elim
theorem TK {Q:Exit->En->PH->Prop} {o:Oper} {l:List Oper} {K:Sy->PH->Prop} (H:Region.wanted o (yE ops E)=mY) (hd:fq n o.dst=mY) (h:Zm P o K σ F) (r:Rel σ E)
  (k:∀g D C,Rel g D->(∀t,o.dst≠V t->D t=E t)->K g C->HL P n ops Q l D C):HL P n ops Q (o::l) E F:=by
 unfold Zm at h;split at h
 ·obtain ⟨g,nv,R,v,L,w,N,_,h⟩:=LL h r;exact qfP L (k _ _ _ (w.putO N) (λ_ O=>qO O) h) H hd
 ·have:=LU h r;refine QO H hd (dg _ _ this ?_);intro M C B;cases M with
  |value v=>obtain ⟨G,g,_,w,A,h⟩:=B;exact k _ _ _ w A h
  |skip=>obtain ⟨G,g,_,w,A,h⟩:=B;exact k _ _ _ w A h
  |enter f J=>exact B.mono λv C ⟨G,g,_,w,A,h⟩=>k _ _ _ w A h
  |defer d=>obtain ⟨hi,G,g,_,w,A,h⟩:=B;exact ⟨hi,k _ _ _ w A h⟩
  |_=>exact B
theorem CT {M:List Nat} {C:En} {K:CK}:∀(l:List Oper) (σ:Sy) (E:En) (F:PH),(∀o∈l,∀t,o.dst=V t->t∈M)->Fr M C E->XP P n ops (K .normal) l σ F->Rel σ E->HL P n ops (QK M C K) l E F
 |[],σ,E,F,_,fr,h,r=>Tb ⟨⟨σ,r,h⟩,fr⟩
 |o::l,σ,E,F,hM,fr,h,r=>by
  unfold XP at h;obtain ⟨hd,h⟩:=eC h;have step:∀{σ:Sy},Rel σ E->Region.wanted o (yE ops E)=mY->Zm P o (XP P n ops (K .normal) l) σ F->HL P n ops (QK M C K) (o::l) E F:=λr w h=>
   TK w hd h r λG N L B O Q=>CT l G N L (λo D=>hM o (Vm _ D))
    (fr.trans λt R=>O t λe=>tO (hM o (XA ..) t e) R rfl) Q B
  have skip:∀{σ:Sy},Rel σ E->Region.wanted o (yE ops E)=mz->XP P n ops (K .normal) l (σ.putO o.dst (.sv .und)) F->HL P n ops (QK M C K) (o::l) E F:=λr w h=>
   NI w hd (CT l _ _ F (λo D=>hM o (Vm _ D)) (fr.trans (CR λt e=>hM o (XA ..) t e)) h (r.putO rfl))
  have g:=CS (ops:=ops) r o;revert h g;cases Yb ops σ o with
  |go=>intro h g;cases g with|go w=>exact step r w h
  |no=>intro h g;cases g with|no w=>exact skip r w h
  |bad=>intro h g;exact h.elim
  |split i b H=>
   intro h g;cases g with
   |split _ _ _ v hi J w=>
    have h:=LV h J;have B:Rel (σ.rf i (.lit v)) E:=r.rf hi J;split at h
    ·rename_i A;exact step B (by rw [w];exact A) h
    ·rename_i A;exact skip B (by rw [w];exact A) h
end
inductive PW:Pn->cu->Prop
 |nil:PW [] []
 |cons {i:Nat} {c:PH->Prop} {S:World->Prop} {pend:Pn} {Sp:cu} (h:∀F,c F->CC F S) (t:PW pend Sp):PW ((i,c)::pend) ((i,S)::Sp)
theorem PW.rest {o:Oper} {g:Pn} {r:cu} (h:PW g r):PW (g.filter λp=> !Oper.waits .any o p.1) (cu.rest .any o r):=by
 induction h with
 |nil=>exact .nil
 |cons h t ih=>
  rename_i i c S g r;unfold cu.rest at*;simp only [List.filter_cons];cases Oper.waits .any o i
  ·exact .cons h ih
  ·exact ih
theorem Oh {F:PH} {g:Pn} {w:cu} (h:PW g w) {K:Prop} (r:Tz F g K):fR w F/\K:=by
 induction h with
 |nil=>exact ⟨QX,r⟩
 |cons h t ih=>exact ⟨QY (h _ r.1) (ih r.2).1,(ih r.2).2⟩
theorem Oi {F r:PH} {S:World->Prop} (B:F.le r) (h:CC F S):CC r S:=λe w st=>h e w
 ⟨st.os,st.tape,st.output,λb o g=>st.heap b o (B b o g),λb o g=>⟨(by
  cases hF:F b with
  |none=>rfl
  |some u=>
   have A:=(st.frame b o g).1;rw [B b u hF] at A
   cases A),(st.frame b o g).2⟩⟩
theorem Oj {F g:PH} {w:cu} (B:F.le g) (h:fR w F):fR w g:=λr A=>Oi B (h r A)
theorem GW {F:PH} {o:Oper} {g:cu} (h:fR g F):fR (cu.rest .any o g) F:=λr w=>h r (X1.1 w).1
theorem FE:∀{l:List Prop},TA l->∀p∈l,p
 |[],h=>h.elim
 |[p],h=>by intro q r;rw [vy] at r;subst r;exact h
 |p::q::l,h=>by
  intro u g;rcases tD.1 g with rfl|g
  ·exact h.1
  ·exact FE h.2 u g
theorem Ak {ops:Array Oper} {w:Sy} {i:Nat} {o:Oper} {g:G}:∀{l:List Nat},va ops w l=V (i,o,g)->ops[i]? =V o/\Yb ops w o=g
 |[],h=>by cases h
 |j::l,h=>by
  unfold va at h;split at h
  ·cases h
  ·rename_i u r;split at h
   ·rename_i A;split at h
    ·cases h;exact ⟨r,A⟩
    ·exact Ak h
   ·cases h;exact ⟨r,rfl⟩
theorem Al {ops:Array Oper} {r:Sy}:∀{l:List Nat},va ops r l=I->(∀i∈l,ops[i]?≠I)->∀i∈l,∀o,ops[i]? =V o->Yb ops r o=.go
 |[],_,_=>λi hi=>by cases hi
 |j::l,h,hn=>by
  unfold va at h;split at h
  ·rename_i w;exact absurd w (hn j (XA ..))
  ·rename_i u A;split at h
   ·rename_i B;split at h
    ·cases h
    ·intro i hi o g;rcases tD.1 hi with rfl|hi
     ·rw [A] at g;cases g;exact B
     ·exact Al h (λi hi=>hn i (Vm _ hi)) i hi o g
   ·cases h
section
variable {P:Program} {n:Nat} {ops:Array Oper} {M:List Nat} {E0:En} {K:CK}
theorem CU {o:Oper} {E:En} {F:PH} {A B:En->PH->Prop} (h:aG P (execOp (ev E) o) F (bJ P A o E)) (g:∀C w,A C w->B C w):aG P (execOp (ev E) o) F (bJ P B o E):=
 dg _ _ h λG w r=>by
  cases G with
  |value v=>exact g _ _ r
  |skip=>exact g _ _ r
  |enter f D=>exact r.mono λv w h=>g _ _ h
  |defer d=>exact ⟨r.1,g _ _ r.2⟩
  |_=>exact r
def jW (K:CK):Prop:=∀c σ F,¬K (.panic c) σ F
theorem lA (H:jW K) (C:∀o∈ops.toList,∀t,o.dst=V t->t∈M):∀(k fuel:Nat) (listed:Array Bool) (w:Pn) (G:cu) (J:Sy) (E:En) (F:PH),Fr M E0 E->PW w G->fR G F->
  XO P n ops (K .normal) k fuel listed w J F->Rel J E->RG P n ops (QK M E0 K) fuel listed G E F
 |0,fuel,listed,w,G,J,E,F,fr,pw,hh,h,r=>by unfold XO at h;exact h.elim
 |k+1,fuel,listed,w,G,J,E,F,fr,pw,hh,h,r=>by
  have hp:∀c E F,¬QK M E0 K (.panic c) E F:=λc E F ⟨⟨J,_,h⟩,_⟩=>H c J F h;have mem:∀{i:Nat} {o:Oper},ops[i]? =V o->o∈ops.toList:=λh=>by rw [<- YG] at h;exact vQ h
  unfold XO at h;split at h
  ·rename_i hr;exact NM hr ⟨⟨J,r,h⟩,fr⟩
  ·rename_i rs a1;split at h
   ·exact h.elim
   ·rename_i fuel;split at h
    ·rename_i i o g O;obtain ⟨hi,hg⟩:=Ak O;obtain ⟨hb,h⟩:=eC h;simp only [VO] at hb;obtain ⟨⟨⟨h1,h2⟩,h3⟩,h4⟩:=hb;have L:=CS (ops:=ops) r o;rw [hg] at L;split at h
     ·cases L with
      |no N=>exact NO hi h1 h2 h3 h4 hp N hh (lA H C k fuel _ w G _ _ F (fr.trans (CR λt e=>C o (mem hi) t e)) pw hh h (r.putO rfl))
     ·rename_i j b a4;cases L with
      |split _ _ _ v hj hv N=>have h:=LV h hv;exact lA H C k (fuel+1) _ w G _ _ F fr pw hh h (r.rf hj hv)
     ·cases L with
      |go N=>
       obtain ⟨a3,nv,ck,v,hy,X,W,R,h⟩:=LL h r;have B:Fr M E0 (cR E o.dst v):=fr.trans (CR λt e=>C o (mem hi) t e);cases ck with
       |none=>exact qfR hi h1 h2 h3 h4 hp N R hh (lA H C k fuel _ w G _ _ F B pw hh h (X.putO W))
       |some c=>refine qfQ hi h1 h2 h3 h4 hp N hy hh (lA H C k fuel _ ((i,c)::w) _ _ _ F B (.cons (λF hc=>Fu (R.2 F hc)) pw) (QY (Fu hy) hh) h (X.putO W))
     ·exact h.elim
    ·rename_i O;have Q:=FE h;have a0:∀i∈Region.ready .any ops listed,∃o,ops[i]? =V o/\_:=λi hi=>by
      have:=Q _ (w9.2 ⟨i,hi,rfl⟩);split at this
      ·exact this.elim
      ·rename_i o D;exact ⟨o,D,this⟩
     have a2:=Al O (λi hi e=>by obtain ⟨o,D,_⟩:=a0 i hi;rw [e] at D;cases D);refine Tc rfl (by cases hl:Region.ready .any ops listed with|nil=>exact absurd hl a1|cons _ _=>rfl) λi hi=> ?_;obtain ⟨o,D,hx⟩:=a0 i hi;obtain ⟨hd,hx⟩:=eC hx;have L:=CS (ops:=ops) r o;rw [a2 i hi o D] at L;cases L with
     |go N=>
      refine ⟨o,D,hd,N,CU (LU hx r) ?_⟩;rintro E' F' ⟨fl,a3,hl,X,hf,h⟩;have B:Fr M E0 E':=fr.trans λt ht=>hf t λe=>tO (C o (mem D) t e) ht rfl;cases fl with
      |true=>have A:=Oj (hl rfl) (GW (o:=o) hh);exact ⟨A,lA H C k fuel _ _ _ _ _ F' B pw.rest A h X⟩
      |false=>obtain ⟨A,h⟩:=Oh pw.rest h;exact ⟨A,lA H C k fuel _ _ _ _ _ F' B pw.rest A h X⟩
end
end Go.Proofs.YteilolbbgieadaaGreatDoor.Rx
