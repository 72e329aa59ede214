/-
  A reader of code. Part 6: regions in any order; code; functions.
-/
import Derived.Orders
import Derived.Tactics
import Derived.RowKit3
import Derived.OrdersHeld
import Derived.Scope
import Derived.Defers
import Derived.Laws.Append
import Derived.Test.YteilolbbgieadaaGreatDoorRows
import Derived.WalkKit
import Derived.ProofKit
import Derived.OpenShut
import Derived.SizedLaws
import Derived.Carry
import Derived.Deep.Slices
import Derived.Test.YteilolbbgieadaaGreatDoorProg
import Derived.KernelRfl
open Option renaming some->mB,none->nC
open Go.Obj renaming cells->mX
open Bool renaming false->nS,true->nZ
open Go.Addr renaming add->od,mk->pd
namespace Go.Proofs.YteilolbbgieadaaGreatDoor
open Go
theorem vp {a b:Nat} (h:Nat.ble (a+1) b=true):a<b:=Nat.le_of_ble_eq_true h
theorem Υ:type_of%@if_neg:=@if_neg
theorem Χ:type_of%@if_pos:=@if_pos
theorem δ:type_of%@decide_eq_true_eq:=@decide_eq_true_eq
theorem ε:type_of%@decide_eq_true:=@decide_eq_true
theorem ζ:type_of%@of_decide_eq_true:=@of_decide_eq_true
theorem η:type_of%@decide_eq_false:=@decide_eq_false
theorem ι:type_of%@of_decide_eq_false:=@of_decide_eq_false
theorem μ:type_of%@not_not_intro:=@not_not_intro
theorem N4:type_of%@Int.toNat_natCast:=@Int.toNat_natCast
theorem N5:type_of%@List.getElem?_eq_getElem:=@List.getElem?_eq_getElem
theorem N6:type_of%@List.getElem?_eq_some_iff:=@List.getElem?_eq_some_iff
theorem tT:type_of%@List.length_append:=@List.length_append
theorem tI:type_of%@Nat.le_refl:=@Nat.le_refl
theorem tQ:type_of%@List.mem_cons:=@List.mem_cons
theorem wh:type_of%@List.mem_of_getElem?:=@List.mem_of_getElem?
theorem vb:type_of%@List.length_map:=@List.length_map
theorem wa:type_of%@List.mem_singleton:=@List.mem_singleton
theorem vl:type_of%@List.mem_append:=@List.mem_append
theorem wo:type_of%@List.length_cons:=@List.length_cons
theorem wV:type_of%@List.take_length:=@List.take_length
theorem wR:type_of%@Bool.eq_iff_iff:=@Bool.eq_iff_iff
theorem yY:type_of%@List.take_of_length_le:=@List.take_of_length_le
theorem yb:type_of%@List.append_assoc:=@List.append_assoc
theorem z8:type_of%@List.getElem?_append_left:=@List.getElem?_append_left
theorem Vb:type_of%@List.getD_eq_getElem?_getD:=@List.getD_eq_getElem?_getD
theorem yr:type_of%@List.getElem?_map:=@List.getElem?_map
theorem Vm:type_of%@List.getElem?_append_right:=@List.getElem?_append_right
theorem xV:type_of%@List.map_cons:=@List.map_cons
theorem yD:type_of%@List.append_nil:=@List.append_nil
theorem xR:type_of%@List.mem_map:=@List.mem_map
theorem yV:type_of%@Option.some.inj:=@Option.some.inj
theorem zA:type_of%@Array.length_toList:=@Array.length_toList
theorem Vc:type_of%@List.length_singleton:=@List.length_singleton
theorem yO:type_of%@List.map_append:=@List.map_append
theorem VT:type_of%@List.eq_nil_of_length_eq_zero:=@List.eq_nil_of_length_eq_zero
theorem xZ:type_of%@Nat.mul_one:=@Nat.mul_one
theorem yp:type_of%@Nat.zero_add:=@Nat.zero_add
theorem zH:type_of%@List.cons_append:=@List.cons_append
theorem PM:type_of%@List.length_take:=@List.length_take
theorem zr:type_of%@List.nil_append:=@List.nil_append
theorem WI:type_of%@List.take_succ_eq_append_getElem:=@List.take_succ_eq_append_getElem
theorem Wh:type_of%@Array.getElem?_eq_getElem:=@Array.getElem?_eq_getElem
theorem VB:type_of%@List.mem_cons_of_mem:=@List.mem_cons_of_mem
theorem V6:type_of%@List.getElem?_cons_succ:=@List.getElem?_cons_succ
theorem Vq:type_of%@List.all_eq_true:=@List.all_eq_true
theorem WJ:type_of%@List.take_append_of_le_length:=@List.take_append_of_le_length
theorem yM:type_of%@Nat.zero_le:=@Nat.zero_le
theorem VP:type_of%@List.getElem?_eq_none:=@List.getElem?_eq_none
theorem Va:type_of%@List.take_zero:=@List.take_zero
theorem Vv:type_of%@Bool.and_eq_true:=@Bool.and_eq_true
theorem Vw:type_of%@List.getElem_mem:=@List.getElem_mem
theorem VC:type_of%@List.nodup_append:=@List.nodup_append
theorem VD:type_of%@List.flatMap_cons:=@List.flatMap_cons
theorem VQ:type_of%@Bool.false_eq_true:=@Bool.false_eq_true
theorem Wi:type_of%@Nat.pow_le_pow_right:=@Nat.pow_le_pow_right
theorem VF:type_of%@Option.map_some:=@Option.map_some
theorem Vz:type_of%@List.drop_zero:=@List.drop_zero
theorem Xc:type_of%@Int.tmod_eq_emod_of_nonneg:=@Int.tmod_eq_emod_of_nonneg
theorem Wj:type_of%@List.take_add_one:=@List.take_add_one
theorem Wp:type_of%@List.ext_getElem?:=@List.ext_getElem?
theorem Wq:type_of%@List.length_range:=@List.length_range
theorem WY:type_of%@List.take_append_drop:=@List.take_append_drop
theorem XG:type_of%@List.drop_eq_getElem_cons:=@List.drop_eq_getElem_cons
theorem W1:type_of%@Nat.mul_le_mul_right:=@Nat.mul_le_mul_right
theorem Vr:type_of%@Int.le_refl:=@Int.le_refl
theorem W2:type_of%@Bool.and_eq_true_iff:=@Bool.and_eq_true_iff
theorem Ws:type_of%@List.not_mem_nil:=@List.not_mem_nil
theorem XZ:type_of%@Array.getElem?_eq_some_iff:=@Array.getElem?_eq_some_iff
theorem Xn:type_of%@List.length_replicate:=@List.length_replicate
theorem V7:type_of%@Nat.add_assoc:=@Nat.add_assoc
theorem V8:type_of%@Bool.true_and:=@Bool.true_and
theorem VV:type_of%@Nat.sub_zero:=@Nat.sub_zero
theorem Xo:type_of%@List.drop_succ_cons:=@List.drop_succ_cons
theorem Wx:type_of%@List.nodup_cons:=@List.nodup_cons
theorem WL:type_of%@List.length_drop:=@List.length_drop
theorem X1:type_of%@List.length_eq_zero_iff:=@List.length_eq_zero_iff
theorem X2:type_of%@List.getElem?_cons_zero:=@List.getElem?_cons_zero
theorem Xw:type_of%@List.mem_cons_self:=@List.mem_cons_self
theorem V9:type_of%@Nat.zero_mul:=@Nat.zero_mul
theorem X3:type_of%@List.getElem?_set_self:=@List.getElem?_set_self
theorem WM:type_of%@Bool.or_eq_true:=@Bool.or_eq_true
theorem Wy:type_of%@List.mem_range:=@List.mem_range
theorem XK:type_of%@List.getElem?_range:=@List.getElem?_range
theorem YU:type_of%@Nat.testBit_two_pow_mul_add:=@Nat.testBit_two_pow_mul_add
theorem Wl:type_of%@Nat.le_trans:=@Nat.le_trans
theorem Yu:type_of%@Int.eq_ofNat_of_zero_le:=@Int.eq_ofNat_of_zero_le
theorem Wa:type_of%@Nat.add_mul:=@Nat.add_mul
theorem XL:type_of%@Nat.eq_zero_or_pos:=@Nat.eq_zero_or_pos
theorem WN:type_of%@Bool.false_and:=@Bool.false_and
theorem WZ:type_of%@List.length_nil:=@List.length_nil
theorem Yq:type_of%@List.drop_eq_nil_of_le:=@List.drop_eq_nil_of_le
theorem Wr:type_of%@Nat.succ_mul:=@Nat.succ_mul
theorem XV:type_of%@List.flatMap_append:=@List.flatMap_append
theorem VU:type_of%@Nat.mod_lt:=@Nat.mod_lt
theorem XH:type_of%@List.size_toArray:=@List.size_toArray
theorem Wk:type_of%@Nat.one_mul:=@Nat.one_mul
theorem YN:type_of%@List.getElem?_take_of_lt:=@List.getElem?_take_of_lt
theorem XI:type_of%@List.any_eq_true:=@List.any_eq_true
theorem YO:type_of%@Nat.add_sub_cancel_left:=@Nat.add_sub_cancel_left
theorem Zc:type_of%@Array.getD_eq_getD_getElem?:=@Array.getD_eq_getD_getElem?
theorem Zd:type_of%@Int.fdiv_eq_ediv_of_nonneg:=@Int.fdiv_eq_ediv_of_nonneg
theorem Ze:type_of%@Int.tdiv_eq_ediv_of_nonneg:=@Int.tdiv_eq_ediv_of_nonneg
theorem Yr:type_of%@List.length_pos_iff:=@List.length_pos_iff
theorem Ys:type_of%@List.take_succ_cons:=@List.take_succ_cons
theorem Zf:type_of%@List.map_eq_singleton_iff:=@List.map_eq_singleton_iff
theorem YP:type_of%@Array.getElem?_modify:=@Array.getElem?_modify
theorem YQ:type_of%@Nat.eq_of_beq_eq_true:=@Nat.eq_of_beq_eq_true
theorem YR:type_of%@Array.getElem?_toList:=@Array.getElem?_toList
theorem XX:type_of%@List.mem_flatMap:=@List.mem_flatMap
theorem XY:type_of%@List.drop_length:=@List.drop_length
theorem Xj:type_of%@List.all_cons:=@List.all_cons
theorem YS:type_of%@List.getElem?_modify:=@List.getElem?_modify
theorem XJ:type_of%@List.drop_drop:=@List.drop_drop
theorem YT:type_of%@List.mem_of_mem_take:=@List.mem_of_mem_take
theorem Yt:type_of%@List.getElem?_set:=@List.getElem?_set
theorem Yv:type_of%@Bool.eq_false_iff:=@Bool.eq_false_iff
theorem Yh:type_of%@List.mem_filter:=@List.mem_filter
theorem YV:type_of%@List.append_toArray:=@List.append_toArray
theorem Zg:type_of%@Option.map_eq_some_iff:=@Option.map_eq_some_iff
theorem Yw:type_of%@Bool.not_eq_true:=@Bool.not_eq_true
theorem Yy:type_of%@List.getElem_map:=@List.getElem_map
theorem YW:type_of%@Bool.false_ne_true:=@Bool.false_ne_true
theorem Zh:type_of%@Nat.le_of_ble_eq_true:=@Nat.le_of_ble_eq_true
theorem Yz:type_of%@List.forIn_cons:=@List.forIn_cons
theorem YA:type_of%@List.length_set:=@List.length_set
theorem Zi:type_of%@List.mem_append_left:=@List.mem_append_left
theorem XM:type_of%@Nat.add_comm:=@Nat.add_comm
theorem Zj:type_of%@List.getElem?_set_ne:=@List.getElem?_set_ne
theorem Zk:type_of%@Nat.testBit_two_pow:=@Nat.testBit_two_pow
theorem Zl:type_of%@Array.toList_append:=@Array.toList_append
theorem Zm:type_of%@Nat.add_one_sub_one:=@Nat.add_one_sub_one
theorem YX:type_of%@List.prefix_refl:=@List.prefix_refl
theorem YB:type_of%@Nat.mul_le_mul:=@Nat.mul_le_mul
theorem Yi:type_of%@Nat.sub_self:=@Nat.sub_self
theorem YY:type_of%@Nat.min_eq_left:=@Nat.min_eq_left
theorem YC:type_of%@Bool.or_false:=@Bool.or_false
theorem YD:type_of%@Prod.mk.injEq:=@Prod.mk.injEq
abbrev PH:=Nat->Option Obj
namespace PH
def set (F:PH) (b:Nat) (o:Obj):PH:=λx=>if x=b then mB o else F x
def cell (F:PH) (a:Addr):Option Value:=
 match F a.block with
 |some (mX c _ _)=>if a.spot.isSome then nC else c[a.off]?
 |_=>nC
def le (F G:PH):Prop:=∀b o,F b=mB o->G b=mB o
end PH
structure Ev where
 os:Os
 tape:Nat->Question->Nat
 output:Array (Nat×ByteArray)
 fr:PH
structure Sat (e:Ev) (w:World) (F:PH):Prop where
 os:w.os=e.os
 tape:w.tape=e.tape
 output:w.output=e.output
 heap:∀b o,F b=mB o->w.heap[b]? =mB o
 frame:∀b o,e.fr b=mB o->F b=nC/\w.heap[b]? =mB o
def ak (v:Value):Prop:=(∀xs,v≠.agg xs)/\(∀xs,v≠.tuple xs)
def YI (fr:Nat×Nat) (i:Nat):Bool:=fr.1<=i && i<fr.2
def jH:Obj->Option (TypeId×Nat)
 | mX c e _=>mB (e,c.size)
 |_=>nC
def uE (o:Obj) (i:Nat):Bool:=
 match o with
 | mX _ _ fr=>YI fr i
 |_=>nS
def aH {α:Type} (P:Program):Sem α->PH->(α->PH->Prop)->Prop
 | .pure a,F,Q=>Q a F
 | .load _ a k,F,Q=>∃v,F.cell a=mB v/\aH P (k v) F Q
 | .store _ a v k,F,Q=>ak v/\∃c e fr,F a.block=mB (mX c e fr)/\a.spot=nC/\a.off<c.size/\YI fr a.off=nS/\
   aH P k (F.set a.block (mX (c.setIfInBounds a.off v) e fr)) Q
 | .new o k,F,Q=>∀b,F b=nC->aH P (k b) (F.set b o) Q
 | .shape r k,F,Q=>∃o,F r=mB o/\aH P (k (jH o)) F Q
 | .freeze a n k,F,Q=>if n=0 then aH P k F Q else ∃c e fr,F a.block=mB (mX c e fr)/\
   aH P k (F.set a.block (mX c e (if fr.1==fr.2 then (a.off,a.off+n) else (min fr.1 a.off,max fr.2 (a.off+n))))) Q
 | .frozen a k,F,Q=>∃o,F a.block=mB o/\aH P (k (uE o a.off)) F Q
 | .getObj r k,F,Q=>∃o,F r=mB o/\(∀c e fr,o≠mX c e fr)/\aH P (k o) F Q
 | .setObj r o k,F,Q=>∃o',F r=mB o'/\(∀c e fr,o'≠mX c e fr)/\aH P k (F.set r o) Q
 | .choose q k,F,Q=>if q.forced then aH P (k 0) F Q else ∀t,aH P (k (q.cut t)) F Q
 | .sys _ _,_,_=>False
 | .program k,F,Q=>aH P (k P) F Q
 | .mark _ k,F,Q=>aH P k F Q
 | .halt _,_,_=>False
section
variable {e:Ev} {w:World} {F:PH}
theorem Sat.cell (h:Sat e w F) {a:Addr} {v:Value} (g:F.cell a=mB v):w.cell? a=mB v:=by
 unfold PH.cell at g;unfold World.cell?;split at g
 ·rename_i c t A r;rw [h.heap _ _ r];exact g
 ·cases g
theorem Sat.lt (h:Sat e w F) {b:Nat} {o:Obj} (g:F b=mB o):b<w.heap.size:=by have:=h.heap _ _ g;exact (XZ.1 this).1
theorem Sat.fresh (h:Sat e w F):F w.heap.size=nC:=by
 cases hb:F w.heap.size with
 |none=>rfl
 |some o=>exact absurd (h.lt hb) (by omega)
theorem Sat.push (h:Sat e w F) (o:Obj):Sat e {w with heap:=w.heap.push o} (F.set w.heap.size o):=by
 refine ⟨h.os,h.tape,h.output,λb A g=> ?_,λb A g=> ?_⟩
 ·unfold PH.set at g;split at g
  ·rename_i r;subst r;simpa using g
  ·rename_i r;have C:=h.heap _ _ g;have B:=h.lt g;show (w.heap.push o)[b]? =mB A;rw [Array.getElem?_push,Υ (by omega)];exact C
 ·obtain ⟨C,B⟩:=h.frame b A g;have D:=(XZ.1 B).1;refine ⟨?_,?_⟩
  ·unfold PH.set;rw [Υ (by omega)];exact C
  ·show (w.heap.push o)[b]? =mB A;rw [Array.getElem?_push,Υ (by omega)];exact B
theorem Sat.modify (h:Sat e w F) {r:Nat} {o I:Obj} (J:F r=mB I) (g:Array Obj) (K:g[r]? =mB o) (G:∀b,b≠r->g[b]? =w.heap[b]?):
  Sat e {w with heap:=g} (F.set r o):=by
 refine ⟨h.os,h.tape,h.output,λb E B=> ?_,λb E B=> ?_⟩
 ·unfold PH.set at B;split at B
  ·rename_i A;subst A;exact K.trans B
  ·rename_i A;exact (G b A).trans (h.heap _ _ B)
 ·obtain ⟨D,H⟩:=h.frame b E B;have C:b≠r:=λe=>by rw [e,J] at D;cases D
  exact ⟨by unfold PH.set;rw [Υ C];exact D,(G b C).trans H⟩
theorem Sat.drawn (h:Sat e w F) (n:Nat):Sat e {w with drawn:=n} F:=⟨h.os,h.tape,h.output,h.heap,h.frame⟩
theorem BI {α:Type} {P:Program} {e:Ev} (s:Sem α):∀(F:PH) (w:World) (Q:α->PH->Prop),aH P s F Q->Sat e w F->
  ∃a w' N,s.run P w=.ok a w'/\Sat e w' N/\Q a N:=by
 induction s with
 |pure a=>intro F w Q h A;exact ⟨a,w,F,rfl,A,h⟩
 |load m a k ih=>intro F w Q h A;obtain ⟨v,V,h⟩:=h;simp only [Sem.run,A.cell V];exact ih v F w Q h A
 |store m a v k ih=>
  intro F w Q h A;obtain ⟨⟨U,R⟩,c,t,M,B,I,E,K,h⟩:=h;have g:=A.heap _ _ B;have D:w.cell? a=mB c[a.off]:=by simp [World.cell?,g,I,E]
  have J:w.frozen? a=nS:=by obtain ⟨lo,hi⟩:=M;simpa [World.frozen?,g,YI] using K
  have H:(Sem.store m a v k).run P w=k.run P (w.setCell a v):=by cases v<;>first|exact absurd rfl (U _)|exact absurd rfl (R _)|simp [Sem.run,D,J]
  rw [H];refine ih _ _ Q h ?_;have:w.setCell a v={w with heap:=(w.setCell a v).heap}:=rfl;rw [this];refine A.modify B _ ?_ (λb C=> ?_)
  ·simp [World.setCell,YP,g,I]
  ·simp only [World.setCell,YP];rw [Υ (λh=>C h.symm)]
 |new o k ih=>intro F w Q h A;exact ih _ _ _ Q (h _ A.fresh) (A.push o)
 |shape r k ih=>
  intro F w Q h A;obtain ⟨o,B,h⟩:=h;have g:=A.heap _ _ B;have:w.shape? r=(jH o):=by unfold World.shape?;rw [g];cases o<;>simp [jH]
  simp only [Sem.run,this];exact ih _ F w Q h A
 |freeze a n k ih=>
  intro F w Q h A;simp only [Sem.run,World.freeze];unfold aH at h;split at h
  ·rename_i G;rw [Χ G];exact ih F w Q h A
  ·rename_i G;rw [Υ G];obtain ⟨c,t,M,B,h⟩:=h;have g:=A.heap _ _ B;refine ih _ _ Q h (A.modify B _ ?_ (λb C=> ?_))
   ·simp [YP,g]
   ·rw [YP,Υ (λh=>C h.symm)]
 |frozen a k ih=>
  intro F w Q h A;obtain ⟨o,B,h⟩:=h;have g:=A.heap _ _ B;have:w.frozen? a=(uE o a.off):=by unfold World.frozen?;rw [g];cases o<;>simp [uE,YI]
  simp only [Sem.run,this];exact ih _ F w Q h A
 |getObj r k ih=>
  intro F w Q h A;obtain ⟨o,B,G,h⟩:=h;have g:=A.heap _ _ B;have:(Sem.getObj r k).run P w=(k o).run P w:=by cases o<;>first|exact absurd rfl (G _ _ _)|simp only [Sem.run,g]
  rw [this];exact ih _ F w Q h A
 |setObj r o k ih=>
  intro F w Q h A;obtain ⟨O,B,G,h⟩:=h;have g:=A.heap _ _ B;have E:=A.lt B;have:(Sem.setObj r o k).run P w=k.run P {w with heap:=w.heap.setIfInBounds r o}:=by cases O<;>first|exact absurd rfl (G _ _ _)|simp only [Sem.run,g]
  rw [this];refine ih _ _ Q h (A.modify B _ ?_ (λb C=> ?_))
  ·simp [E]
  ·rw [Array.getElem?_setIfInBounds_ne (λh=>C h.symm)]
 |choose q k ih=>
  intro F w Q h A;simp only [Sem.run];unfold aH at h;split
  ·rename_i L;rw [Χ L] at h;exact ih _ F w Q h A
  ·rename_i L;rw [Υ L] at h;exact ih _ F _ Q (h _) (A.drawn _)
 |sys c k ih=>intro F w Q h;exact h.elim
 |program k ih=>intro F w Q h A;exact ih _ F w Q h A
 |mark m k ih=>intro F w Q h A;exact ih F w Q h A
 |halt h=>intro F w Q h;exact h.elim
end
theorem uF {α g:Type} {P:Program} (s:Sem α) (f:α->Sem g):∀(F:PH) (Q:g->PH->Prop),
  aH P (s.bind f) F Q↔aH P s F (λa w=>aH P (f a) w Q):=by
 induction s with
 |pure a=>intro F Q;rfl
 |load m a k ih=>intro F Q;simp only [Sem.bind,aH,ih]
 |store m a v k ih=>intro F Q;simp only [Sem.bind,aH,ih]
 |new o k ih=>intro F Q;simp only [Sem.bind,aH,ih]
 |shape r k ih=>intro F Q;simp only [Sem.bind,aH,ih]
 |freeze a n k ih=>intro F Q;simp only [Sem.bind,aH,ih]
 |frozen a k ih=>intro F Q;simp only [Sem.bind,aH,ih]
 |getObj r k ih=>intro F Q;simp only [Sem.bind,aH,ih]
 |setObj r o k ih=>intro F Q;simp only [Sem.bind,aH,ih]
 |choose q k ih=>intro F Q;simp only [Sem.bind,aH,ih]
 |sys c k ih=>intro F Q;simp only [Sem.bind,aH]
 |program k ih=>intro F Q;simp only [Sem.bind,aH,ih]
 |mark m k ih=>intro F Q;simp only [Sem.bind,aH,ih]
 |halt h=>intro F Q;simp only [Sem.bind,aH]
theorem aE {α g:Type} {P:Program} (s:Sem α) (f:α->Sem g) (F:PH) (Q:g->PH->Prop):
  aH P (s>>=f) F Q↔aH P s F (λa h=>aH P (f a) h Q):=uF s f F Q
theorem de {α:Type} {P:Program} (s:Sem α):∀(F:PH) {Q w:α->PH->Prop},aH P s F Q->(∀a F,Q a F->w a F)->aH P s F w:=by
 induction s with
 |pure a=>intro F Q w h g;exact g _ _ h
 |load m a k ih=>rintro F Q w ⟨v,A,h⟩ g;exact ⟨v,A,ih v F h g⟩
 |store m a v k ih=>rintro F Q w ⟨A,c,e,D,C,J,G,E,h⟩ g;exact ⟨A,c,e,D,C,J,G,E,ih _ h g⟩
 |new o k ih=>intro F Q w h g b I;exact ih _ _ (h b I) g
 |shape r k ih=>rintro F Q w ⟨o,A,h⟩ g;exact ⟨o,A,ih _ F h g⟩
 |freeze a n k ih=>
  intro F Q w h g;unfold aH at h ⊢;split at h
  ·rename_i B;rw [Χ B];exact ih F h g
  ·rename_i B;rw [Υ B];obtain ⟨c,e,D,A,h⟩:=h;exact ⟨c,e,D,A,ih _ h g⟩
 |frozen a k ih=>rintro F Q w ⟨o,A,h⟩ g;exact ⟨o,A,ih _ F h g⟩
 |getObj r k ih=>rintro F Q w ⟨o,A,C,h⟩ g;exact ⟨o,A,C,ih _ F h g⟩
 |setObj r o k ih=>rintro F Q w ⟨H,A,C,h⟩ g;exact ⟨H,A,C,ih _ h g⟩
 |choose q k ih=>
  intro F Q w h g;unfold aH at h ⊢;split at h
  ·rename_i B;rw [Χ B];exact ih _ F h g
  ·rename_i B;rw [Υ B];exact λt=>ih _ F (h t) g
 |sys c k ih=>intro F Q w h;exact h.elim
 |program k ih=>intro F Q w h g;exact ih _ F h g
 |mark m k ih=>intro F Q w h g;exact ih F h g
 |halt h=>intro F Q w h;exact h.elim
abbrev En:=Nat->Value
def upd (E:En) (d:Nat) (v:Value):En:=λt=>bif Nat.beq t d then v else E t
def cM (E:En):Option Tmp->Value->En
 |some d,v=>upd E d v
 |none,_=>E
def ev (E:En):Operand->Value
 | .tmp t=>E t
 | .const v=>v
 | .global g=> .pointer (mB ⟨g,0,nC⟩)
 | .func f=> .func (.func f) #[] #[]
def Sr (args:List Value):En:=λt=>args.getD t undef
def BJ (P:Program) (d:Deferred):Prop:=∃fv cap f args,d.target=.fn fv cap/\∀w,(invoke d.target d.args).run P w=.ok (.enter f args) w/\
 CallsD P f args .returning w λe u' w'=>(∃v,e=.returned v)/\u'=.returning/\w'=w
theorem jd {P:Program} {C:Func} {tmps:Array Value} {w:World} {v:Value} {R:Ending->World->Prop} (A:(results C tmps).run P w=.ok v w) (r:R (.returned v) w):
  ∀ds:List Deferred,(∀d∈ds,BJ P d)->Leaves P C tmps R ds .returning w
 |[],_=>⟨v,A,r⟩
 |d::ds,h=>by obtain ⟨E,cap,f,g,D,B⟩:=h d (by simp);refine ⟨by simp,E,cap,f,g,D,(B w).1,(B w).2.mono ?_⟩;rintro e H F ⟨⟨G,rfl⟩,rfl,rfl⟩;exact jd A r ds λd hd=>h d (VB _ hd)
structure Ag (P:Program) (n:Nat) (a:Act) (E:En):Prop where
 size:a.tmps.size=n
 defers:∀d∈a.defers,BJ P d
 val:∀t,a.tmps.getD t undef=E t
theorem Ag.eval {P:Program} {n:Nat} {a:Act} {E:En} (h:Ag P n a E):a.eval=ev E:=by
 funext x;cases x with
 |tmp t=>exact h.val t
 |_=>rfl
def fq (n:Nat):Option Tmp->Bool
 |some d=>Nat.blt d n
 |none=>nZ
theorem kX {i j:Nat} (h:¬i=j):Nat.beq i j=nS:=by
 cases hb:Nat.beq i j with
 |false=>rfl
 |true=>exact absurd (YQ hb) h
theorem Ag.put {P:Program} {n:Nat} {a:Act} {E:En} (h:Ag P n a E) {d:Option Tmp} (v:Value) (hd:fq n d=nZ):Ag P n (a.put d v) (cM E d v):=by
 cases d with
 |none=>exact h
 |some d=>
  have r:d<n:=by simpa [fq,Nat.blt_eq] using hd
  refine ⟨by simp [Act.put,h.size],h.defers,λt=> ?_⟩;simp only [Act.put,cM,upd];have w:=h.val t;by_cases g:t=d
  ·subst g;simp [h.size,r]
  ·have:Nat.beq t d=nS:=kX g;simp only [this,cond_false];rw [<- w];simp [Array.getElem?_setIfInBounds_ne (Ne.symm g)]
def QL (P:Program) (e:Ev) (n:Nat) (Q:Exit->En->PH->Prop):Exit->Act->World->Prop:=λx a w=>∃E F,Ag P n a E/\Sat e w F/\Q x E F
def aj (P:Program) (f:FuncId) (args:Array Value) (F:PH) (R:Value->PH->Prop):Prop:=
 ∀e w,Sat e w F->Calls P f args w λen w'=>∃v F',en=.returned v/\Sat e w' F'/\R v F'
def PH.and (F H:PH):PH:=λb=>match F b with|some o=>mB o|none=>H b
theorem PH.and_left {F H:PH} {b:Nat} {o:Obj} (h:F b=mB o):(F.and H) b=mB o:=by simp [PH.and,h]
theorem PH.and_right {F H:PH} {b:Nat} (h:F b=nC):(F.and H) b=H b:=by simp [PH.and,h]
theorem aj.beside {P:Program} {f:FuncId} {args:Array Value} {F H:PH} {R:Value->PH->Prop} (h:aj P f args F R) (hd:∀b o,H b=mB o->F b=nC):
  aj P f args (F.and H) λv V=>∃G,R v G/\V=G.and H/\∀b o,H b=mB o->G b=nC:=by
 intro e w B;have r:∀{F:PH} {b:Nat},(F.and H) b=nC->F b=nC/\H b=nC:=λ{F b} g=>by
  unfold PH.and at g;split at g
  ·cases g
  ·rename_i E;exact ⟨E,g⟩
 refine (h ⟨e.os,e.tape,e.output,e.fr.and H⟩ w ⟨B.os,B.tape,B.output,λb o g=>B.heap b o (PH.and_left g),λb o g=> ?_⟩).mono ?_
 ·simp only [PH.and] at g;split at g
  ·rename_i A D;cases g;obtain ⟨J,U⟩:=B.frame b _ D;exact ⟨(r J).1,U⟩
  ·have L:=hd b o g;exact ⟨L,B.heap b o ((PH.and_right L).trans g)⟩
 ·rintro Y X ⟨v,G,rfl,C,W⟩;have I:∀b o,H b=mB o->G b=nC:=λb o g=>by
   have N:∃A,(e.fr.and H) b=mB A:=by
    cases E:e.fr b with
    |none=>exact ⟨o,(PH.and_right E).trans g⟩
    |some A=>exact ⟨A,PH.and_left E⟩
   obtain ⟨A,D⟩:=N;exact (C.frame b A D).1
  refine ⟨v,_,rfl,⟨C.os,C.tape,C.output,λb o g=> ?_,λb o g=> ?_⟩,G,W,rfl,I⟩
  ·cases hG:G b with
   |some A=>rw [PH.and_left hG] at g;cases g;exact C.heap b _ hG
   |none=>
    rw [PH.and_right hG] at g;have K:e.fr b=nC:=by
     cases E:e.fr b with
     |none=>rfl
     |some A=>have:=(r (B.frame b A E).1).2;rw [g] at this;cases this
    exact (C.frame b o ((PH.and_right K).trans g)).2
  ·obtain ⟨J,_⟩:=B.frame b o g;have O:=(r J).2;obtain ⟨Q,M⟩:=C.frame b o (PH.and_left g);exact ⟨by rw [PH.and_right Q];exact O,M⟩
theorem aj.mono {P:Program} {f:FuncId} {args:Array Value} {F:PH} {R r:Value->PH->Prop} (h:aj P f args F R) (A:∀v g,R v g->r v g):
  aj P f args F r:=λe w B=>(h e w B).mono λ_ _ ⟨v,g,E,C,D⟩=>⟨v,g,E,C,A v g D⟩
def HC (P:Program) (n:Nat) (c:Code) (Q:Exit->En->PH->Prop) (E:En) (F:PH):Prop:=
 ∀e a w,Ag P n a E->Sat e w F->c.wp P (QL P e n Q) a w
def HL (P:Program) (n:Nat) (ops:Array Oper) (Q:Exit->En->PH->Prop) (l:List Oper) (E:En) (F:PH):Prop:=
 ∀e a w,Ag P n a E->Sat e w F->wpList P ops (QL P e n Q) l a w
abbrev Px (K:En->PH->Prop) (Q:Exit->En->PH->Prop):Exit->En->PH->Prop
 | .normal,E,F=>K E F
 |x,E,F=>Q x E F
abbrev JF (id:Nat) (Q:Exit->En->PH->Prop):Exit->En->PH->Prop
 | .exit i,E,F=>bif Nat.beq i id then Q .normal E F else Q (.exit i) E F
 |x,E,F=>Q x E F
section
variable {P:Program} {n:Nat} {Q:Exit->En->PH->Prop} {E:En} {F:PH}
theorem MS (h:Q .normal E F):HC P n .skip Q E F:=λ_ _ _ g st=>wp_skip ⟨E,F,g,st,h⟩
theorem Ss (h:Q .ret E F):HC P n .ret Q E F:=λ_ _ _ g st=>wp_ret ⟨E,F,g,st,h⟩
theorem MT {g:Nat} (h:Q (.exit g) E F):HC P n (.exit g) Q E F:=λ_ _ _ r st=>wp_exit ⟨E,F,r,st,h⟩
theorem BK {x y:Code} (h:HC P n x (Px (HC P n y Q) Q) E F):HC P n (.seq x y) Q E F:=λe a w A st=>
 wp_seq (wp_mono (h e a w A st) λG B D ⟨H,C,g,r,q⟩=>by
  cases G with
  |normal=>exact q e B D g r
  |_=>exact ⟨H,C,g,r,q⟩)
theorem p7 {c:Operand} {x y:Code} {t:Bool} (r:ev E c=.bool t) (B:t=nZ->HC P n x Q E F) (A:t=nS->HC P n y Q E F):
  HC P n (.cond c x y) Q E F:=λe a w g st=>
 wp_cond_split (by rw [g.eval];exact r) (λh=>B h e a w g st) (λh=>A h e a w g st)
theorem JG {l:Nat} (h:Q .normal E F):HC P n (.label l) Q E F:=λ_ _ _ g st=>wp_label ⟨E,F,g,st,h⟩
def qgh (Q:Exit->En->PH->Prop):Exit->En->PH->Prop
 | .goto _,_,_=>False
 |x,E,F=>Q x E F
theorem JH {c:Code} (h:HC P n c (qgh Q) E F):HC P n (.scope c) Q E F:=λe a w A st=>
 wp_scope_straight (wp_mono (h e a w A st) λC G H ⟨D,B,g,r,q⟩=>by
  cases C with
  |goto l=>exact q.elim
  |_=>exact ⟨D,B,g,r,q⟩)
theorem JI {A:Nat} {c:Code} (h:HC P n c (JF A Q) E F):HC P n (.block A c) Q E F:=λe a w D st=>
 wp_block (wp_mono (h e a w D st) λG H I ⟨C,B,g,r,q⟩=>by
  cases G with
  |exit i=>
   simp only [Exit.inBlock,JF] at q ⊢;by_cases hi:i=A
   ·subst hi;have:Nat.beq i i=nZ:=by simp
    simp only [this,cond_true] at q;rw [Χ rfl];exact ⟨C,B,g,r,q⟩
   ·have:Nat.beq i A=nS:=kX hi;simp only [this,cond_false] at q;rw [Υ hi];exact ⟨C,B,g,r,q⟩
  |_=>exact ⟨C,B,g,r,q⟩)
theorem MU {c:Code} (I:Nat->En->PH->Prop) (m0:Nat) (h0:I m0 E F)
  (C:∀m E F,I m E F->HC P n c (Px (λR V=>∃N,N<m/\I N R V) Q) E F):HC P n (.loop c) Q E F:=by
 intro e a w O st b k Z;have key:∀m a w E F,Ag P n a E->Sat e w F->I m E F->
   ∃G M L,QL P e n Q G M L/\Arrives P (lone (b.at a (.code c::.inLoop c::k)) Z w) b k Z G M L:=by
  intro m;induction m using Nat.strongRecOn with
  |_ m ih=>
   intro a w E F O st hI;obtain ⟨G,r,h,B,g⟩:=C m E F hI e a w O st b (.inLoop c::k) Z;cases G with
   |normal=>obtain ⟨R,V,Y,U,N,X,W⟩:=B;obtain ⟨H,J,K,D,A⟩:=ih N X r h R V Y U W;exact ⟨H,J,K,D,.of_steps (Steps.trans g (.one step_inLoop)) A⟩
   |exit id=>exact ⟨_,r,h,B,.pass (x:=.inLoop c) rfl (λ_ _=> .inl (by simp)) g⟩
   |goto l=>exact ⟨_,r,h,B,.pass (x:=.inLoop c) rfl (λ_ _=> .inl (by simp)) g⟩
   |ret=>exact ⟨_,r,h,B,.pass (x:=.inLoop c) rfl (λ_ _=> .inl (by simp)) g⟩
   |panic ch=>exact ⟨_,r,h,B,.pass (x:=.inLoop c) rfl (λ_ _=> .inl (by simp)) g⟩
   |outgrown=>exact ⟨_,r,h,B,.pass (x:=.inLoop c) rfl (λ_ _=> .inl (by simp)) g⟩
 obtain ⟨G,M,L,B,g⟩:=key m0 a w E F O st h0;exact ⟨G,M,L,B,.of_steps (.one step_loop) g⟩
theorem FX {r:Nat} {l:List Oper} (h:HL P n l.toArray Q l E F):HC P n (.region r l.toArray nS) Q E F:=λe a w g st=>
 wp_region_lit (h e a w g st)
def bJ (P:Program) (K:En->PH->Prop) (o:Oper) (E:En):Next->PH->Prop
 | .value v,F=>K (cM E o.dst v) F
 | .skip,F=>K (cM E o.dst undef) F
 | .enter f args,F=>aj P f args F λv F'=>K (cM E o.dst v) F'
 | .defer d,F=>BJ P d/\K (cM E o.dst undef) F
 |_,_=>False
theorem Py {o:Oper} {e:Ev} {a:Act} {w:World} {K:En->PH->Prop} {H:Act->World->Prop} {R:Exit->Act->World->Prop} (r:Ag P n a E) (st:Sat e w F) (hd:fq n o.dst=nZ)
  (C:∀a w E F,Ag P n a E->Sat e w F->K E F->H a w)
  (h:aH P (execOp (ev E) o) F (bJ P K o E)):o.wp P a w H R:=by
 obtain ⟨N,I,V,O,g,A⟩:=BI _ F w _ h st;unfold Oper.wp;rw [r.eval,O];cases N with
 |value v=>exact C _ _ _ _ (r.put v hd) g A
 |skip=>exact C _ _ _ _ (r.put undef hd) g A
 |enter f G=>refine (A e I g).mono ?_;rintro _ L ⟨v,J,rfl,B,U⟩;exact C _ _ _ _ (r.put v hd) B U
 |defer d=>have D:Ag P n {a with defers:=d::a.defers} E:=⟨r.size,λM h=>(tQ.1 h).elim (λe=>e▸A.1) (r.defers M),r.val⟩;exact C _ _ _ _ (D.put undef hd) g A.2
 |_=>exact A.elim
def yE (ops:Array Oper) (E:En) (j:Nat):Option Bool:=
 match (ops[j]?).bind (·.dst) with
 |some t=>(match E t with| .bool b=>mB b|_=>nC)
 |none=>nC
theorem Ag.yE_eq {a:Act} (h:Ag P n a E) (ops:Array Oper) (j:Nat):yielded ops a.tmps j=yE ops E j:=by
 unfold yielded yE;cases (ops[j]?).bind (·.dst) with
 |none=>rfl
 |some t=>
  have g:=h.val t;simp only [Option.bind_some];rw [<- g,Zc];cases a.tmps[t]? with
  |none=>rfl
  |some v=>cases v<;>rfl
theorem Ag.wanted_eq {a:Act} (h:Ag P n a E) (ops:Array Oper) (o:Oper):Region.wanted o (yielded ops a.tmps)=Region.wanted o (yE ops E):=by
 unfold Region.wanted;cases o.guard with
 |none=>rfl
 |some g=>simp only [h.yE_eq]
theorem Su {ops:Array Oper} (h:Q .normal E F):HL P n ops Q [] E F:=λ_ _ _ g st=>wpList_nil ⟨E,F,g,st,h⟩
theorem Pz {ops:Array Oper} {o:Oper} {l:List Oper} (r:Region.wanted o (yE ops E)=nZ) (hd:fq n o.dst=nZ)
  (h:aH P (execOp (ev E) o) F (bJ P (HL P n ops Q l) o E)):HL P n ops Q (o::l) E F:=λe a w g st=>by
 unfold wpList;rw [g.wanted_eq,Χ r];exact .inl (Py g st hd (λa w E F g st A=>A e a w g st) h)
theorem MV {ops:Array Oper} {o:Oper} {l:List Oper} (r:Region.wanted o (yE ops E)=nS) (hd:fq n o.dst=nZ)
  (h:HL P n ops Q l (cM E o.dst undef) F):HL P n ops Q (o::l) E F:=λe a w g st=>by
 unfold wpList;rw [g.wanted_eq,Υ (by simp [r])];exact h e _ _ (g.put undef hd) st
def oI (P:Program) (fn:Func) (E:En) (F:PH) (v:Value):Prop:=
 ∀e w tmps,Sat e w F->(∀t:Nat,Array.getD tmps t undef=E t)->(results fn tmps).run P w=.ok v w
abbrev MW (P:Program) (fn:Func) (R:Value->PH->Prop):Exit->En->PH->Prop
 | .normal,E,F| .ret,E,F=>∃v,oI P fn E F v/\R v F
 |_,_,_=>False
theorem MX {f:FuncId} {A:Func} {c:Code} {args:List Value} {R:Value->PH->Prop} (M:P.funcs[f]? =mB A) (K:A.body=mB c)
  (N:A.ntmps=n) (J:Nat.ble args.length n=nZ) (h:HC P n c (MW P A R) (Sr args) F):aj P f args.toArray F R:=λe w st=>by
 have I:args.length<=n:=by simpa [Nat.ble_eq] using J
 refine calls_of_wp_defers M K ?_;refine wp_mono (h e _ w ⟨?_,λ_ h=>(by cases h),λt=> ?_⟩ st) ?_
 ·simp [N];omega
 ·simp only [Sr,Zc,Vb,Array.getElem?_append,XH,Array.getElem?_replicate];by_cases H:t<args.length
  ·simp [H]
  ·simp only [H,if_false];rw [VP (by omega)];split<;>rfl
 ·rintro L O D ⟨U,G,g,r,q⟩;cases L with
  |normal=>obtain ⟨v,C,B⟩:=q;exact jd (C e D _ r g.val) ⟨v,G,rfl,r,B⟩ _ g.defers
  |ret=>obtain ⟨v,C,B⟩:=q;exact jd (C e D _ r g.val) ⟨v,G,rfl,r,B⟩ _ g.defers
  |_=>exact q.elim
end
section
variable {P:Program} {ops:Array Oper} {md:Region.Mode}
def Oper.waits (md:Region.Mode) (o:Oper) (r:Nat):Bool:=o.after.toList.any λe=>Region.binds md e && e.on==r
theorem BL {o:Oper} {r:Nat}:Oper.waits md o r=nS↔∀e∈o.after,Region.binds md e=nZ->e.on≠r:=by
 unfold Oper.waits;rw [<- Yw,XI];constructor
 ·intro h x g B A;exact h ⟨x,by simpa using g,by simp [B,A]⟩
 ·rintro h ⟨x,g,w⟩;simp only [Vv,beq_iff_eq] at w;exact h x (by simpa using g) w.1 w.2
abbrev cn:=List (Nat×(World->Prop))
def cn.hold (Sp:cn) (w:World):Prop:=∀r∈Sp,r.2 w
def cn.rest (md:Region.Mode) (o:Oper) (Sp:cn):cn:=Sp.filter λr=> !Oper.waits md o r.1
def ip (P:Program) (md:Region.Mode) (ops:Array Oper) (Q:Exit->Act->World->Prop):Nat->Array Bool->cn->Act->World->Prop
 |0,listed,_,a,w=>Region.ready md ops listed=[]/\Q .normal a w
 |fuel+1,listed,Sp,a,w=>
  (Region.ready md ops listed=[]->Q .normal a w)/\
  ∀i∈Region.ready md ops listed,∀o,ops[i]? =mB o->
   wpOp P ops Q i (λa' w'=>(Sp.rest md o).hold w'/\ip P md ops Q fuel (listed.setIfInBounds i nZ) (Sp.rest md o) a' w') a w
variable {Q:Exit->Act->World->Prop}
theorem rZ:∀(fuel:Nat) (listed:Array Bool) (C:cn) (a:Act) (w:World),ip P md ops Q fuel listed C a w->wpAny P md ops Q fuel listed a w
 |0,_,_,_,_,h=>h
 |fuel+1,_,_,_,_,h=>⟨h.1,λi hi=>by
   obtain ⟨_,o,B,_⟩:=mem_ready.1 hi
   exact wpOp_mono (λr g A=>rZ fuel _ _ r g A.2) (h.2 i hi o B)⟩
theorem cn.rest_sub {o:Oper} {A g:cn} (h:∀r∈g,r∈A):∀r∈cn.rest md o g,r∈cn.rest md o A:=by intro r w;unfold cn.rest at*;rw [Yh] at*;exact ⟨h r w.1,w.2⟩
theorem r6:∀(fuel:Nat) (listed:Array Bool) (B g:cn) (a:Act) (w:World),(∀r∈g,r∈B)->ip P md ops Q fuel listed B a w->
  ip P md ops Q fuel listed g a w
 |0,_,_,_,_,_,_,h=>h
 |fuel+1,_,_,_,_,_,hs,h=>⟨h.1,λi hi o E=>wpOp_mono (λD C A=>⟨λr F=>A.1 r (cn.rest_sub hs r F),r6 fuel _ _ _ D C (cn.rest_sub hs) A.2⟩) (h.2 i hi o E)⟩
theorem mA {S:World->Prop} {i:Nat} {N:Oper} {v:Value} (hi:ops[i]? =mB N) (I:∀(j:Nat) (o:Oper) Z b,ops[j]? =mB o->o.op≠.select Z b)
  (hQ:∀c a w,Q (.panic c) (a.put N.dst v) w->Q (.panic c) a w):
  ∀(fuel:Nat) (g:Array Bool) (U:cn) (a:Act) (w:World),
   (∀j R,ops[j]? =mB R->j≠i->g.getD j nZ=nS->(∀e∈R.after,Region.binds md e=nZ->e.on≠i)->N.apart ops R=nZ)->
   i∈Region.ready md ops g->YieldsIf P ops S N v a->S w->U.hold w->
   ip P md ops Q fuel (g.setIfInBounds i nZ) ((i,S)::U) (a.put N.dst v) w->ip P md ops Q (fuel+1) g U a w:=by
 intro fuel;induction fuel with
 |zero=>
  intro g U a w _ V hy hS hh H;refine ⟨λh=>(by rw [h] at V;cases V),λj hj R E=> ?_⟩;by_cases B:j=i
  ·subst B;exact hy.wpOp hi hS ⟨λr A=>hh r (Yh.1 A).1,H⟩
  ·have:=ready_mono hj B;rw [H.1] at this;cases this
 |succ fuel ih=>
  intro g U a w F V hy hS hh H;refine ⟨λh=>(by rw [h] at V;cases V),λj hj R E=> ?_⟩;by_cases B:j=i
  ·subst B;refine hy.wpOp hi hS ⟨λr A=>hh r (Yh.1 A).1,?_⟩;exact r6 (fuel+1) _ _ _ _ _ (λr A=>VB _ (Yh.1 A).1) H
  ·have K:=H.2 j (ready_mono hj B) R E;obtain ⟨M,D,L,W⟩:=mem_ready.1 hj;obtain rfl:D=R:=by rw [E] at L;exact (yV L).symm
   have J:∀e∈D.after,Region.binds md e=nZ->e.on≠i:=λe he hb a3=>by
    have K:=W e he hb;have h0:=(mem_ready.1 V).1;rw [a3] at K;rcases Nat.lt_or_ge i g.size with h'|h'
    ·simp [h'] at h0 K;rw [h0] at K;cases K
    ·simp [Array.getElem?_eq_none h'] at K
   have hw:Oper.waits md D i=nS:=BL.2 J;have O:cn.rest md D ((i,S)::U)=(i,S)::cn.rest md D U:=by unfold cn.rest;rw [List.filter_cons_of_pos (by simp [hw])]
   rw [O] at K;have h2:=wpOp_putIf E (F j D E B M J) (λZ b=>I i N Z b hi) (λZ b=>I j D Z b E) hQ hy K;have G:∀k ok,ops[k]? =mB ok->k≠i->(g.setIfInBounds j nZ).getD k nZ=nS->
     (∀e∈ok.after,Region.binds md e=nZ->e.on≠i)->N.apart ops ok=nZ:=λk ok hk a0 Y a1=>by
    refine F k ok hk a0 ?_ a1;by_cases X:j=k
    ·subst X;exact M
    ·rw [getD_set_ne nZ X] at Y;exact Y
   refine wpOp_mono (λa' w' h3=> ?_) h2;obtain ⟨a2,C,h3⟩:=h3;refine ⟨λr A=>C r (VB _ A),?_⟩;refine ih (g.setIfInBounds j nZ) _ a' w' G (ready_mono V (Ne.symm B)) a2 (C _ (Xw ..)) (λr A=>C r (VB _ A)) ?_;rw [Array.setIfInBounds_comm _ _ B];exact h3
end
section
variable {P:Program} {n:Nat} {Q:Exit->En->PH->Prop} {E:En} {F:PH} {ops:Array Oper}
def BM (F:PH) (S:World->Prop):Prop:=∀e w,Sat e w F->S w
def fN (Sp:cn) (F:PH):Prop:=∀r∈Sp,BM F r.2
def RG (P:Program) (n:Nat) (ops:Array Oper) (Q:Exit->En->PH->Prop) (fuel:Nat) (listed:Array Bool) (Sp:cn) (E:En) (F:PH):Prop:=
 ∀e a w,Ag P n a E->Sat e w F->ip P .any ops (QL P e n Q) fuel listed Sp a w
theorem MY {A:Nat} (r:P.follows .mixedOrders=nZ) (h:RG P n ops Q ops.size (Array.replicate ops.size nS) [] E F):
  HC P n (.region A ops nZ) Q E F:=λe a w g st=>
 wp_region_any r (rZ _ _ _ _ _ (h e a _ g (st.drawn _)))
theorem MZ {fuel:Nat} {listed:Array Bool} {A:cn} (r:Region.ready .any ops listed=[]) (h:Q .normal E F):RG P n ops Q fuel listed A E F:=
 λe a w g st=>by
  cases fuel with
  |zero=>exact ⟨r,E,F,g,st,h⟩
  |succ fuel=>exact ⟨λ_=>⟨E,F,g,st,h⟩,by rw [r];simp⟩
def PA (P:Program) (S:World->Prop) (E:En) (o:Oper) (v:Value):Prop:=∀w,S w->(execOp (ev E) o).run P w=.ok (.value v) w
theorem Ek {S:World->Prop} {i:Nat} {g:Oper} {v:Value} {fuel:Nat} {listed:Array Bool} {A:cn} (hi:ops[i]? =mB g)
  (H:Region.noSelect ops=nZ) (K:Region.free .any ops listed i=nZ) (D:(Region.ready .any ops listed).contains i=nZ) (hd:fq n g.dst=nZ)
  (I:∀c E F,¬Q (.panic c) E F) (L:Region.wanted g (yE ops E)=nZ) (M:PA P S E g v) (G:BM F S) (J:fN A F)
  (h:RG P n ops Q fuel (listed.setIfInBounds i nZ) ((i,S)::A) (cM E g.dst v) F):RG P n ops Q (fuel+1) listed A E F:=λe a w B st=>
 mA hi (Region.noSelect_spec H) (λc a w ⟨E,F,_,_,q⟩=>(I c E F q).elim) fuel listed A a w (Region.free_spec hi K) (by simpa using D)
  (.inl ⟨by rw [B.wanted_eq];exact L,λw C=>by rw [B.eval];exact M w C⟩) (G e w st) (λr D=>J r D e w st) (h e _ w (B.put v hd) st)
theorem je {Q:Exit->Act->World->Prop} {A:Region.Mode} (i:Nat):∀(fuel:Nat) (listed:Array Bool) (g:cn) (a:Act) (w:World),ip P A ops Q fuel listed g a w->
  ip P A ops Q fuel listed ((i,λ_=>True)::g) a w
 |0,_,_,_,_,h=>h
 |fuel+1,_,g,_,_,h=>⟨h.1,λj J o I=>wpOp_mono (λH G B=>by
   by_cases D:Oper.waits A o i=nZ
   ·have:cn.rest A o ((i,λ_=>True)::g)=cn.rest A o g:=by unfold cn.rest;rw [List.filter_cons_of_neg (by simp [D])]
    rw [this];exact B
   ·have:cn.rest A o ((i,λ_=>True)::g)=(i,λ_=>True)::cn.rest A o g:=by unfold cn.rest;rw [List.filter_cons_of_pos (by simpa using D)]
    rw [this];refine ⟨λr C=> ?_,je i fuel _ _ H G B.2⟩;rcases tQ.1 C with rfl|C
    ·trivial
    ·exact B.1 r C) (h.2 j J o I)⟩
theorem M0 {i:Nat} {g:Oper} {v:Value} {fuel:Nat} {listed:Array Bool} {r:cn} (hi:ops[i]? =mB g)
  (C:Region.noSelect ops=nZ) (H:Region.free .any ops listed i=nZ) (B:(Region.ready .any ops listed).contains i=nZ) (hd:fq n g.dst=nZ)
  (D:∀c E F,¬Q (.panic c) E F) (I:Region.wanted g (yE ops E)=nZ) (J:PA P (λ_=>True) E g v) (G:fN r F)
  (h:RG P n ops Q fuel (listed.setIfInBounds i nZ) r (cM E g.dst v) F):RG P n ops Q (fuel+1) listed r E F:=
 Ek (S:=λ_=>True) hi C H B hd D I J (λ_ _ _=>trivial) G λe a w A st=>je i _ _ _ _ _ (h e a w A st)
theorem M1 {i:Nat} {A:Oper} {fuel:Nat} {listed:Array Bool} {g:cn} (hi:ops[i]? =mB A)
  (D:Region.noSelect ops=nZ) (H:Region.free .any ops listed i=nZ) (B:(Region.ready .any ops listed).contains i=nZ) (hd:fq n A.dst=nZ)
  (G:∀c E F,¬Q (.panic c) E F) (I:Region.wanted A (yE ops E)=nS) (J:fN g F)
  (h:RG P n ops Q fuel (listed.setIfInBounds i nZ) g (cM E A.dst undef) F):RG P n ops Q (fuel+1) listed g E F:=λe a w C st=>
 mA (S:=λ_=>True) hi (Region.noSelect_spec D) (λc a w ⟨E,F,_,_,q⟩=>(G c E F q).elim) fuel listed g a w (Region.free_spec hi H) (by simpa using B)
  (.inr ⟨by rw [C.wanted_eq];exact I,rfl⟩) trivial (λr B=>J r B e w st) (je i _ _ _ _ _ (h e _ w (C.put undef hd) st))
def qgi (P:Program) (n:Nat) (ops:Array Oper) (Q:Exit->En->PH->Prop) (fuel:Nat) (listed:Array Bool) (Sp:cn) (E:En) (F:PH) (i:Nat):Prop:=
 ∃o,ops[i]? =mB o/\fq n o.dst=nZ/\Region.wanted o (yE ops E)=nZ/\
  aH P (execOp (ev E) o) F (bJ P (λE' F'=>fN (Sp.rest .any o) F'/\RG P n ops Q fuel (listed.setIfInBounds i nZ) (Sp.rest .any o) E' F') o E)
theorem Sv {fuel:Nat} {listed:Array Bool} {I:cn} {G:List Nat} (D:Region.ready .any ops listed=G) (B:G.isEmpty=nS)
  (h:∀i∈G,qgi P n ops Q fuel listed I E F i):RG P n ops Q (fuel+1) listed I E F:=λe a w C st=>by
 subst D;refine ⟨λL=>(by rw [L] at B;cases B),λi hi o H=> ?_⟩;obtain ⟨K,g,hd,M,A⟩:=h i hi;obtain rfl:K=o:=by rw [H] at g;exact (yV g).symm
 unfold wpOp;simp only [H];rw [C.wanted_eq,Χ M];exact .inl (Py C st hd (λa w E F C st J=>⟨λr D=>J.1 r D e w st,J.2 e a w C st⟩) A)
end
def s9 {α:Type} (P:Program):Sem α->PH->α->Prop
 | .pure a,_,v=>a=v
 | .load _ a k,F,v=>∃x,F.cell a=mB x/\s9 P (k x) F v
 | .shape r k,F,v=>∃o,F r=mB o/\s9 P (k (jH o)) F v
 | .frozen a k,F,v=>∃o,F a.block=mB o/\s9 P (k (uE o a.off)) F v
 | .getObj r k,F,v=>∃o,F r=mB o/\(∀c e fr,o≠mX c e fr)/\s9 P (k o) F v
 | .program k,F,v=>s9 P (k P) F v
 | .mark _ k,F,v=>s9 P k F v
 |_,_,_=>False
theorem qe {α:Type} {P:Program} {e:Ev} (s:Sem α):∀(F:PH) (w:World) (v:α),s9 P s F v->Sat e w F->s.run P w=.ok v w:=by
 induction s with
 |pure a=>intro F w v h _;exact congrArg (λx=>Result.ok x w) h
 |load m a k ih=>rintro F w v ⟨x,C,h⟩ A;simp only [Sem.run,A.cell C];exact ih x F w v h A
 |shape r k ih=>
  rintro F w v ⟨o,B,h⟩ A;have g:=A.heap _ _ B;have:w.shape? r=jH o:=by unfold World.shape?;rw [g];cases o<;>simp [jH]
  simp only [Sem.run,this];exact ih _ F w v h A
 |frozen a k ih=>
  rintro F w v ⟨o,B,h⟩ A;have g:=A.heap _ _ B;have:w.frozen? a=uE o a.off:=by unfold World.frozen?;rw [g];cases o<;>simp [uE,YI]
  simp only [Sem.run,this];exact ih _ F w v h A
 |getObj r k ih=>
  rintro F w v ⟨o,B,D,h⟩ A;have g:=A.heap _ _ B;have:(Sem.getObj r k).run P w=(k o).run P w:=by cases o<;>first|exact absurd rfl (D _ _ _)|simp only [Sem.run,g]
  rw [this];exact ih _ F w v h A
 |program k ih=>intro F w v h A;exact ih _ F w v h A
 |mark m k ih=>intro F w v h A;exact ih F w v h A
 |_=>intro F w v h;exact h.elim
theorem gL {α:Type} {P:Program} (s:Sem α):∀(F:PH) (v:α) (Q:α->PH->Prop),s9 P s F v->Q v F->aH P s F Q:=by
 induction s with
 |pure a=>intro F v Q h g;cases h;exact g
 |load m a k ih=>rintro F v Q ⟨x,A,h⟩ g;exact ⟨x,A,ih x F v Q h g⟩
 |shape r k ih=>rintro F v Q ⟨o,w,h⟩ g;exact ⟨o,w,ih _ F v Q h g⟩
 |frozen a k ih=>rintro F v Q ⟨o,w,h⟩ g;exact ⟨o,w,ih _ F v Q h g⟩
 |getObj r k ih=>rintro F v Q ⟨o,w,B,h⟩ g;exact ⟨o,w,B,ih _ F v Q h g⟩
 |program k ih=>intro F v Q h g;exact ih _ F v Q h g
 |mark m k ih=>intro F v Q h g;exact ih F v Q h g
 |_=>intro F v Q h;exact h.elim
theorem am {α C:Type} {P:Program} (s:Sem α) (f:α->Sem C):∀(F:PH) (v:C),s9 P (s>>=f) F v↔∃a,s9 P s F a/\s9 P (f a) F v:=by
 show ∀(F:PH) (v:C),s9 P (s.bind f) F v↔_;induction s with
 |pure a=>intro F v;simp only [Sem.bind,s9];exact ⟨λh=>⟨a,rfl,h⟩,by rintro ⟨_,rfl,h⟩;exact h⟩
 |load m a k ih=>intro F v;simp only [Sem.bind,s9,ih];exact ⟨λ⟨x,g,a,A,w⟩=>⟨a,⟨x,g,A⟩,w⟩,λ⟨a,⟨x,g,A⟩,w⟩=>⟨x,g,a,A,w⟩⟩
 |shape r k ih=>intro F v;simp only [Sem.bind,s9,ih];exact ⟨λ⟨x,g,a,A,w⟩=>⟨a,⟨x,g,A⟩,w⟩,λ⟨a,⟨x,g,A⟩,w⟩=>⟨x,g,a,A,w⟩⟩
 |frozen a k ih=>intro F v;simp only [Sem.bind,s9,ih];exact ⟨λ⟨x,g,a,A,w⟩=>⟨a,⟨x,g,A⟩,w⟩,λ⟨a,⟨x,g,A⟩,w⟩=>⟨x,g,a,A,w⟩⟩
 |getObj r k ih=>intro F v;simp only [Sem.bind,s9,ih];exact ⟨λ⟨x,g,B,a,A,w⟩=>⟨a,⟨x,g,B,A⟩,w⟩,λ⟨a,⟨x,g,B,A⟩,w⟩=>⟨x,g,B,a,A,w⟩⟩
 |program k ih=>intro F v;simp only [Sem.bind,s9,ih]
 |mark m k ih=>intro F v;simp only [Sem.bind,s9,ih]
 |_=>intro F v;simp [Sem.bind,s9]
@[simp] theorem cH {α:Type} {P:Program} (a v:α) (F:PH):s9 P (pure a:Sem α) F v↔a=v:=Iff.rfl
@[simp] theorem aM {α:Type} {P:Program} (a:α) (F:PH) (Q:α->PH->Prop):aH P (pure a:Sem α) F Q↔Q a F:=Iff.rfl
@[simp] theorem M2 {α g:Type} {P:Program} (f:α->g) (s:Sem α) (F:PH) (v:g):s9 P (Functor.map f s) F v↔∃a,s9 P s F a/\f a=v:=am s (λa=>pure (f a)) F v
@[simp] theorem qio {α g:Type} {P:Program} (f:α->g) (s:Sem α) (F:PH) (Q:g->PH->Prop):aH P (Functor.map f s) F Q↔aH P s F (λa h=>Q (f a) h):=uF s (λa=>pure (f a)) F Q
def vV (P:Program) (t:TypeId):Option (Nat×Nat):=(P.info? t).map λi=>(i.size,i.bytes)
def bv (P:Program) (t:TypeId):Option Value:=(P.info? t).bind (·.zero)
theorem r7 {P:Program} {t s b:Nat} (h:vV P t=mB (s,b)):∃i,P.info? t=mB i/\i.size=s/\i.bytes=b:=by
 unfold vV at h;cases hi:P.info? t with
 |none=>simp [hi] at h
 |some i=>simp [hi] at h;exact ⟨i,rfl,h.1,h.2⟩
theorem se {P:Program} {t:Nat} {z:Value} (h:bv P t=mB z):∃i,P.info? t=mB i/\i.zero=mB z:=by
 unfold bv at h;cases hi:P.info? t with
 |none=>simp [hi] at h
 |some i=>simp [hi] at h;exact ⟨i,rfl,h⟩
section
variable {P:Program} {F:PH}
theorem bu {t s b:Nat} (h:vV P t=mB (s,b)) (v:Nat):s9 P (sizeOf t) F v↔s=v:=by
 obtain ⟨i,A,w,C⟩:=r7 h;unfold sizeOf typeInfo program;simp only [am];constructor
 ·rintro ⟨B,⟨p,r,h⟩,g⟩;simp only [s9] at r;subst r;rw [A] at h;simp only [cH] at h g;subst h;rw [<- w];exact g
 ·rintro rfl;refine ⟨i,⟨P,rfl,?_⟩,?_⟩
  ·rw [A];rfl
  ·rw [<- w];rfl
theorem eZ {t s b:Nat} (h:vV P t=mB (s,b)) (Q:Nat->PH->Prop):aH P (sizeOf t) F Q↔Q s F:=by obtain ⟨i,r,g,w⟩:=r7 h;unfold sizeOf typeInfo program;simp only [aE,aH,r,aM,g]
theorem ft {t s b:Nat} (h:vV P t=mB (s,b)):∃i:TypeInfo,i.bytes=b/\∀(F:PH) (Q:TypeInfo->PH->Prop),aH P (typeInfo t) F Q↔Q i F:=by obtain ⟨i,g,w,r⟩:=r7 h;refine ⟨i,r,λF Q=> ?_⟩;unfold typeInfo program;simp only [aE,aH,g,aM]
theorem aA {t:Nat} {d:TypeDesc} (h:P.underlying t=mB d) (v:TypeDesc):s9 P (underlying t) F v↔d=v:=by
 unfold underlying program;simp only [am];constructor
 ·rintro ⟨p,r,g⟩;simp only [s9] at r;subst r;rw [h] at g;exact g
 ·rintro rfl;exact ⟨P,rfl,by rw [h];rfl⟩
theorem bW {t:Nat} {d:TypeDesc} (h:P.underlying t=mB d) (Q:TypeDesc->PH->Prop):aH P (underlying t) F Q↔Q d F:=by unfold underlying program;simp only [aE,aH,h,aM]
theorem d9 {t:Nat} {z:Value} (h:bv P t=mB z) (Q:Value->PH->Prop):aH P (zeroValue t) F Q↔Q z F:=by obtain ⟨i,r,g⟩:=se h;unfold zeroValue typeInfo program;simp only [aE,aH,r,aM,g]
theorem gA {t:Nat} {z:Value} (h:bv P t=mB z) (v:Value):s9 P (zeroValue t) F v↔z=v:=by
 obtain ⟨i,A,w⟩:=se h;unfold zeroValue typeInfo program;simp only [am];constructor
 ·rintro ⟨B,⟨p,r,h⟩,g⟩;simp only [s9] at r;subst r;rw [A] at h;simp only [cH] at h;subst h;rw [w] at g;exact g
 ·rintro rfl;exact ⟨i,⟨P,rfl,by rw [A];rfl⟩,by rw [w];rfl⟩
def RD (P:Program) (E:En) (F:PH) (o:Oper) (v:Value):Prop:=s9 P (execOp (ev E) o) F (.value v)
variable {n:Nat} {Q:Exit->En->PH->Prop} {E:En} {ops:Array Oper} {o:Oper} {l:List Oper}
theorem qdK {v:Value} (h:RD P E F o v) (K:HL P n ops Q l (cM E o.dst v) F) (g:Region.wanted o (yE ops E)=nZ:=by rfl) (hd:fq n o.dst=nZ:=by rfl):
  HL P n ops Q (o::l) E F:=Pz g hd (gL _ _ _ _ h K)
theorem qdL {i:Nat} {g:Oper} {v:Value} {fuel:Nat} {listed:Array Bool} {r:cn} (hi:ops[i]? =mB g)
  (B:Region.noSelect ops=nZ) (G:Region.free .any ops listed i=nZ) (A:(Region.ready .any ops listed).contains i=nZ) (hd:fq n g.dst=nZ)
  (C:∀c E F,¬Q (.panic c) E F) (H:Region.wanted g (yE ops E)=nZ) (I:RD P E F g v) (D:fN r F)
  (h:RG P n ops Q fuel (listed.setIfInBounds i nZ) ((i,λw=>∃e F,Sat e w F/\RD P E F g v)::r) (cM E g.dst v) F):RG P n ops Q (fuel+1) listed r E F:=
 Ek hi B G A hd C H (λw ⟨e,_,st,h⟩=>qe _ _ _ _ h st) (λe w st=>⟨e,F,st,I⟩) D h
theorem qdM {i:Nat} {g:Oper} {v:Value} {fuel:Nat} {listed:Array Bool} {r:cn} (hi:ops[i]? =mB g)
  (B:Region.noSelect ops=nZ) (G:Region.free .any ops listed i=nZ) (A:(Region.ready .any ops listed).contains i=nZ) (hd:fq n g.dst=nZ)
  (C:∀c E F,¬Q (.panic c) E F) (H:Region.wanted g (yE ops E)=nZ) (I:∀F,RD P E F g v) (D:fN r F)
  (h:RG P n ops Q fuel (listed.setIfInBounds i nZ) r (cM E g.dst v) F):RG P n ops Q (fuel+1) listed r E F:=
 M0 hi B G A hd C H (λw _=>by
  have st:Sat ⟨w.os,w.tape,w.output,λ_=>nC⟩ w (λ_=>nC):=⟨rfl,rfl,rfl,λb o h=>(by cases h),λb o h=>(by cases h)⟩
  exact qe _ _ _ _ (I _) st) D h
theorem El {v:Value} (h:RD P E F o v):BM F (λw=>∃e F,Sat e w F/\RD P E F o v):=λe _ st=>⟨e,F,st,h⟩
end
structure Sl where
 qa5:Option Addr
 len:Nat
 cap:Nat
def Sl.v (s:Sl):Value:=.slice s.qa5 s.len s.cap
def Sl.nil:Sl:=⟨nC,0,0⟩
theorem aL {x:Int} (h: -9223372036854775808<=x) (g:x<=9223372036854775807:=by omega):IntKind.i64.wrap x=x:=by
 have e:IntKind.i64.wrap x=if x % 18446744073709551616≥9223372036854775808 then x % 18446744073709551616 - 18446744073709551616 else x % 18446744073709551616:=by unfold IntKind.wrap;simp [IntKind.bits,IntKind.signed]
 rw [e];split<;>omega
section
variable {P:Program} {F:PH} {E:En} {o:Oper}
theorem Sw {x:Operand} {v:Value} (h:o.op=.move x) (g:ev E x=v):RD P E F o v:=by simp only [RD,execOp,h,cH,g]
theorem JJ {x:Operand} {v:Value} (h:o.op=.assign x) (g:ev E x=v):RD P E F o v:=by simp only [RD,execOp,h,cH,g]
theorem wu {c a b:Operand} {t:Bool} {v:Value} (h:o.op=.pick c a b) (g:ev E c=.bool t) (w:t=nZ->ev E a=v) (r:t=nS->ev E b=v):RD P E F o v:=by
 cases t
 ·simp [RD,execOp,h,g,asBool,r]
 ·simp [RD,execOp,h,g,asBool,w]
abbrev qin:=Value->PH->Prop
abbrev WX {α:Type} (I:Nat->α->PH->Prop) (m:Nat):α->PH->Prop:=λa F=>∃m',m'<m/\I m' a F
abbrev Wf {α β:Type} (I:Nat->α->β->PH->Prop) (m:Nat):α->β->PH->Prop:=λa b F=>∃m',m'<m/\I m' a b F
abbrev Zy {α β γ:Type} (I:Nat->α->β->γ->PH->Prop) (m:Nat):α->β->γ->PH->Prop:=λa b c F=>∃m',m'<m/\I m' a b c F
theorem aau {c a b:Operand} {v:Value} (w:o.op=.pick c a b) (r:ev E c=.bool nS) (g:ev E b=v:=by rfl):RD P E F o v:=wu w r (λh=>by cases h) (λ_=>g)
theorem aav {c a b:Operand} {v:Value} (w:o.op=.pick c a b) (r:ev E c=.bool nZ) (g:ev E a=v:=by rfl):RD P E F o v:=wu w r (λ_=>g) (λh=>by cases h)
theorem BN {x:Operand} {a:Addr} (h:o.op=.nilCheck x) (g:ev E x=.pointer (mB a)):RD P E F o (.pointer (mB a)):=by simp [RD,execOp,h,g]
theorem qh2 {x:Operand} {f:FuncId} {a b:Array Value} (h:o.op=.nilCheck x) (g:ev E x=.func (.func f) a b):RD P E F o (.func (.func f) a b):=by simp [RD,execOp,h,g]
theorem uG {x:Operand} {vs:Array Value} {i:Nat} {v:Value} (h:o.op=.extract x i) (g:ev E x=.tuple vs) (hi:vs[i]? =mB v):RD P E F o v:=by simp [RD,execOp,h,g,Instr.extract,hi]
theorem BO {g:Fn} {first captured:Array Operand} {a b:Array Value} (w:o.op=.makeFunc g first captured) (r:first.map (ev E)=a) (h:captured.map (ev E)=b):
  RD P E F o (.func g a b):=by
 simp [RD,execOp,w,r,h,Instr.makeFunc]
section
variable {x y:Operand} {t t':TypeId} {k:IntKind} {a b:Int}
theorem qdN (h:o.op=.binOp .add t x y t') (g:ev E x=.int k a) (r:ev E y=.int k b):RD P E F o (.int k (k.wrap (a+b))):=by simp [RD,execOp,h,g,r,binOp,eqGuard,Op.intArith]
theorem qdO (h:o.op=.binOp .sub t x y t') (g:ev E x=.int k a) (r:ev E y=.int k b):RD P E F o (.int k (k.wrap (a - b))):=by simp [RD,execOp,h,g,r,binOp,eqGuard,Op.intArith]
theorem qdP (h:o.op=.binOp .mul t x y t') (g:ev E x=.int k a) (r:ev E y=.int k b):RD P E F o (.int k (k.wrap (a*b))):=by simp [RD,execOp,h,g,r,binOp,eqGuard,Op.intArith]
theorem PB (h:o.op=.binOp .quo t x y t') (g:ev E x=.int k a) (w:ev E y=.int k b) (r:b≠0):RD P E F o (.int k (k.wrap (a.tdiv b))):=by simp [RD,execOp,h,g,w,binOp,eqGuard,Op.intDiv,r]
theorem PC (h:o.op=.binOp .rem t x y t') (g:ev E x=.int k a) (w:ev E y=.int k b) (r:b≠0):RD P E F o (.int k (a.tmod b)):=by simp [RD,execOp,h,g,w,binOp,eqGuard,Op.intDiv,r]
theorem qdQ (h:o.op=.binOp .and t x y t') (g:ev E x=.int k a) (r:ev E y=.int k b):RD P E F o (.int k (k.wrap ((BitVec.ofInt k.bits a &&& BitVec.ofInt k.bits b).toNat))):=by simp [RD,execOp,h,g,r,binOp,eqGuard,Op.intBits]
theorem qgj (h:o.op=.binOp .or t x y t') (g:ev E x=.int k a) (r:ev E y=.int k b):RD P E F o (.int k (k.wrap ((BitVec.ofInt k.bits a ||| BitVec.ofInt k.bits b).toNat))):=by simp [RD,execOp,h,g,r,binOp,eqGuard,Op.intBits]
theorem qdR (h:o.op=.binOp .xor t x y t') (g:ev E x=.int k a) (r:ev E y=.int k b):RD P E F o (.int k (k.wrap ((BitVec.ofInt k.bits a ^^^ BitVec.ofInt k.bits b).toNat))):=by simp [RD,execOp,h,g,r,binOp,eqGuard,Op.intBits]
theorem JK (h:o.op=.binOp .andNot t x y t') (g:ev E x=.int k a) (r:ev E y=.int k b):RD P E F o (.int k (k.wrap ((BitVec.ofInt k.bits a &&& ~~~ BitVec.ofInt k.bits b).toNat))):=by simp [RD,execOp,h,g,r,binOp,eqGuard,Op.intBits]
theorem qdS (h:o.op=.binOp .lss t x y t') (g:ev E x=.int k a) (r:ev E y=.int k b):RD P E F o (.bool (decide (a<b))):=by simp [RD,execOp,h,g,r,binOp,eqGuard,Op.intCmp]
theorem qdT (h:o.op=.binOp .leq t x y t') (g:ev E x=.int k a) (r:ev E y=.int k b):RD P E F o (.bool (decide (a<=b))):=by simp [RD,execOp,h,g,r,binOp,eqGuard,Op.intCmp]
theorem qdU (h:o.op=.binOp .gtr t x y t') (g:ev E x=.int k a) (r:ev E y=.int k b):RD P E F o (.bool (decide (b<a))):=by simp [RD,execOp,h,g,r,binOp,eqGuard,Op.intCmp]
theorem qdV (h:o.op=.binOp .geq t x y t') (g:ev E x=.int k a) (r:ev E y=.int k b):RD P E F o (.bool (decide (b<=a))):=by simp [RD,execOp,h,g,r,binOp,eqGuard,Op.intCmp]
theorem qdW (h:o.op=.binOp .eql t x y t') (g:ev E x=.int k a) (r:ev E y=.int k b):RD P E F o (.bool (a==b)):=by simp [RD,execOp,h,g,r,binOp,eqGuard,Op.intCmp]
theorem qdX (h:o.op=.binOp .neq t x y t') (g:ev E x=.int k a) (r:ev E y=.int k b):RD P E F o (.bool (a !=b)):=by simp [RD,execOp,h,g,r,binOp,eqGuard,Op.intCmp]
theorem PD {k':IntKind} (w:o.op=.binOp .shl t x y t') (g:ev E x=.int k a) (h:ev E y=.int k' b) (r:0<=b):RD P E F o (.int k (k.wrap (a*2 ^ (min b.toNat k.bits)))):=by simp [RD,execOp,w,g,h,binOp,eqGuard,Op.shift,Int.not_lt.2 r]
theorem PE {k':IntKind} (w:o.op=.binOp .shr t x y t') (g:ev E x=.int k a) (h:ev E y=.int k' b) (r:0<=b):RD P E F o (.int k (a.fdiv (2 ^ (min b.toNat k.bits)))):=by simp [RD,execOp,w,g,h,binOp,eqGuard,Op.shift,Int.not_lt.2 r]
theorem qdY (h:o.op=.unOp .neg t x) (g:ev E x=.int k a):RD P E F o (.int k (k.wrap (0 - a))):=by simp [RD,execOp,h,g,Op.unary,Op.intArith]
theorem JL {c:Bool} (h:o.op=.unOp .not t x) (g:ev E x=.bool c):RD P E F o (.bool !c):=by simp [RD,execOp,h,g,Op.unary]
theorem FY {k':IntKind} {d:TypeDesc} (w:o.op=.convert t t' x) (h:ev E x=.int k a) (r:P.underlying t=mB d) (g:P.underlying t'=mB (.int k')):RD P E F o (.int k' (k'.wrap a)):=by simp [RD,execOp,w,h,convert,am,aA r,aA g,Conv.intToInt]
theorem uH {m:Nat} {c d:Bool} (g:P.underlying t=mB .bool):s9 P (Op.equalIn (m+1) t (.bool c) (.bool d)) F (c==d):=by simp only [Op.equalIn,am];exact ⟨_,(aA g _).2 rfl,rfl⟩
theorem uI {m:Nat} {p:Option Addr} {e':TypeId} (g:P.underlying t=mB (.pointer e')):s9 P (Op.equalIn (m+1) t (.pointer p) (.pointer nC)) F p.isNone:=by simp only [Op.equalIn,am];refine ⟨_,(aA g _).2 rfl,?_⟩;cases p<;>rfl
theorem bj {op:BinOp} {v u:Value} (h:(match v,u with| .nilIface,.nilIface=>nS| .agg _,.agg _=>nS|_,_=>nZ)=nZ):s9 P (eqGuard op t x y v u) F ():=by unfold eqGuard;cases op<;>simp<;>(split<;>first|(simp at h;done)|rfl)
theorem jI {v u:Value} {r:Bool} (w:o.op=.binOp .eql t x y t') (g:ev E x=v) (C:ev E y=u) (h:s9 P (eqGuard .eql t x y v u) F ()) (B:s9 P (Op.equal t v u) F r)
  (A:binOp .eql t v u=(do pure (.bool (<- Op.equal t v u)))):RD P E F o (.bool r):=by
 simp only [RD,execOp,w,g,C,am];refine ⟨.bool r,⟨(),h,?_⟩,rfl⟩;rw [A,am];exact ⟨r,B,rfl⟩
theorem jJ {v u:Value} {r:Bool} (w:o.op=.binOp .neq t x y t') (g:ev E x=v) (C:ev E y=u) (h:s9 P (eqGuard .neq t x y v u) F ()) (B:s9 P (Op.equal t v u) F r)
  (A:binOp .neq t v u=(do pure (.bool (!(<- Op.equal t v u))))):RD P E F o (.bool (!r)):=by
 simp only [RD,execOp,w,g,C,am];refine ⟨.bool (!r),⟨(),h,?_⟩,rfl⟩;rw [A,am];exact ⟨r,B,rfl⟩
theorem SA {c d:Bool} (w:o.op=.binOp .eql t x y t') (g:ev E x=.bool c) (r:ev E y=.bool d) (h:P.underlying t=mB .bool):RD P E F o (.bool (c==d)):=
 jI w g r (bj rfl) (uH h) rfl
theorem SC {c d:Bool} (w:o.op=.binOp .neq t x y t') (g:ev E x=.bool c) (r:ev E y=.bool d) (h:P.underlying t=mB .bool):RD P E F o (.bool (!(c==d))):=
 jJ w g r (bj rfl) (uH h) rfl
theorem yW {p:Option Addr} {e':TypeId} (w:o.op=.binOp .eql t x y t') (g:ev E x=.pointer p) (r:ev E y=.pointer nC) (h:P.underlying t=mB (.pointer e')):RD P E F o (.bool p.isNone):=
 jI w g r (bj rfl) (uI h) rfl
theorem yX {p:Option Addr} {e':TypeId} (w:o.op=.binOp .neq t x y t') (g:ev E x=.pointer p) (r:ev E y=.pointer nC) (h:P.underlying t=mB (.pointer e')):RD P E F o (.bool (!p.isNone)):=
 jJ w g r (bj rfl) (uI h) rfl
theorem sg {m:Nat} {s:Sl} {e':TypeId} (g:P.underlying t=mB (.slice e')):s9 P (Op.equalIn (m+1) t s.v (.slice nC 0 0)) F s.qa5.isNone:=by simp only [Op.equalIn,am];refine ⟨_,(aA g _).2 rfl,?_⟩;obtain ⟨b,l,c⟩:=s;cases b<;>rfl
theorem BP {s:Sl} {e':TypeId} (w:o.op=.binOp .eql t x y t') (g:ev E x=s.v) (r:ev E y=.slice nC 0 0) (h:P.underlying t=mB (.slice e')):RD P E F o (.bool s.qa5.isNone):=
 jI w g r (bj rfl) (sg h) rfl
theorem BQ {s:Sl} {e':TypeId} (w:o.op=.binOp .neq t x y t') (g:ev E x=s.v) (r:ev E y=.slice nC 0 0) (h:P.underlying t=mB (.slice e')):RD P E F o (.bool (!s.qa5.isNone)):=
 jJ w g r (bj rfl) (sg h) rfl
theorem SD {c d:ByteArray} (r:o.op=.binOp .eql t x y t') (g:ev E x=.string c) (h:ev E y=.string d):RD P E F o (.bool (c.toList==d.toList)):=by simp [RD,execOp,r,g,h,binOp,eqGuard,Op.stringOp]
theorem SE {c d:ByteArray} (r:o.op=.binOp .neq t x y t') (g:ev E x=.string c) (h:ev E y=.string d):RD P E F o (.bool (!(c.toList==d.toList))):=by simp [RD,execOp,r,g,h,binOp,eqGuard,Op.stringOp]
end
section
variable {x y:Operand} {t t':TypeId} {k:IntKind} {a b:Int}
theorem M3 {s:Sl} {e':TypeId} (r:o.op=.call {callee:=.builtin .len,args:= #[x],argTypes:= #[t]}) (g:ev E x=s.v) (h:P.underlying t=mB (.slice e')):RD P E F o (.int .i64 s.len):=by simp [RD,execOp,r,resolve,invoke,builtin,g,Sl.v,Builtin.len_,am,aA h,goInt]
theorem M4 {s:Sl} {e':TypeId} (r:o.op=.call {callee:=.builtin .cap,args:= #[x],argTypes:= #[t]}) (g:ev E x=s.v) (h:P.underlying t=mB (.slice e')):RD P E F o (.int .i64 s.cap):=by simp [RD,execOp,r,resolve,invoke,builtin,g,Sl.v,Builtin.cap_,am,aA h,goInt]
theorem JM {s:ByteArray} (r:o.op=.call {callee:=.builtin .len,args:= #[x],argTypes:= #[t]}) (g:ev E x=.string s) (h:P.underlying t=mB .string):RD P E F o (.int .i64 s.size):=by simp [RD,execOp,r,resolve,invoke,builtin,g,Builtin.len_,am,aA h,goInt]
theorem SF {r:Array TypeId} (h:o.op=.call {callee:=.builtin .max,args:= #[x,y],argTypes:=r}) (g:ev E x=.int k a) (w:ev E y=.int k b):RD P E F o (.int k (max a b)):=by
 have:(if b>a then b else a)=max a b:=by omega
 simp [RD,execOp,h,resolve,invoke,builtin,g,w,Builtin.max_,Builtin.max2];omega
theorem SG {r:Array TypeId} (h:o.op=.call {callee:=.builtin .min,args:= #[x,y],argTypes:=r}) (g:ev E x=.int k a) (w:ev E y=.int k b):RD P E F o (.int k (min a b)):=by simp [RD,execOp,h,resolve,invoke,builtin,g,w,Builtin.min_,Builtin.min2];omega
theorem SH {w:Array TypeId} {z:Operand} {c:Int} (h:o.op=.call {callee:=.builtin .max,args:= #[x,y,z],argTypes:=w}) (g:ev E x=.int k a) (A:ev E y=.int k b) (r:ev E z=.int k c):RD P E F o (.int k (max (max a b) c)):=by simp [RD,execOp,h,resolve,invoke,builtin,g,A,r,Builtin.max_,Builtin.max2];omega
theorem SI {w:Array TypeId} {z:Operand} {c:Int} (h:o.op=.call {callee:=.builtin .min,args:= #[x,y,z],argTypes:=w}) (g:ev E x=.int k a) (A:ev E y=.int k b) (r:ev E z=.int k c):RD P E F o (.int k (min (min a b) c)):=by simp [RD,execOp,h,resolve,invoke,builtin,g,A,r,Builtin.min_,Builtin.min2];omega
end
def kY (d:TypeDesc):Bool:=match d with| .struct _| .array _ _=>nZ|_=>nS
theorem dm {t:Nat} {d:TypeDesc} (h:P.underlying t=mB d) (v:Bool):s9 P (isAgg t) F v↔kY d=v:=by unfold isAgg;simp only [am,aA h,exists_eq_left'];cases d<;>simp [kY]
def PH.row (F:PH) (a:Addr) (cs:Array Value):Prop:=∀i,(h:i<cs.size)->F.cell (a.add i)=mB cs[i]
theorem qgV {a:Addr}:∀(n i:Nat) (g cs:Array Value),cs.size=i+n->g.toList=cs.toList.take i->F.row a cs->s9 P (loadCellsFrom a i n g) F cs:=by
 intro n;induction n with
 |zero=>intro i g cs w h _;show g=cs;apply Array.ext';rw [h,yY];simp only [zA];omega
 |succ n ih=>
  intro i g cs w h r;have hi:i<cs.size:=by omega
  simp only [loadCellsFrom,am];refine ⟨cs[i],⟨_,r i hi,rfl⟩,?_⟩;refine ih (i+1) _ cs (by omega) ?_ r;rw [Array.toList_push,h,WI (by simpa using hi)];simp
theorem eT {a:Addr} {cs:Array Value} (g:F.row a cs):s9 P (loadCells a cs.size) F cs:=
 qgV cs.size 0 #[] cs (by omega) (by simp) g
theorem M5 {x:Operand} {t:TypeId} {d:TypeDesc} {a:Addr} {v:Value} (h:o.op=.load t x) (g:ev E x=.pointer (mB a)) (A:P.underlying t=mB d) (w:kY d=nS) (r:F.cell a=mB v):
  RD P E F o v:=by
 simp [RD,execOp,h,g,Instr.loadAt,Instr.sureAddr,loadVar,am,dm A,w,load,s9,r]
theorem M6 {x:Operand} {t:TypeId} {d:TypeDesc} {a:Addr} {cs:Array Value} {b:Nat} (h:o.op=.load t x) (g:ev E x=.pointer (mB a)) (B:P.underlying t=mB d) (w:kY d=nZ)
  (A:vV P t=mB (cs.size,b)) (r:F.row a cs):RD P E F o (.agg cs):=by
 have:=eT (P:=P) r;simp [RD,execOp,h,g,Instr.loadAt,Instr.sureAddr,loadVar,am,dm B,w,bu A,this]
theorem qhd {a:Addr} {f:Field} {s b:Nat} (h:vV P f.type=mB (s,b)) (g:s≠0) (v:Addr):s9 P (fieldPlace a f) F v↔a.add f.offset=v:=by simp [fieldPlace,am,bu h,g]
theorem qh3 {x:Operand} {t i:Nat} {a:Addr} {fs:Array Field} {f:Field} {s b:Nat} (h:o.op=.fieldAddr t x i) (g:ev E x=.pointer (mB a)) (B:P.underlying t=mB (.struct fs))
  (w:fs[i]? =mB f) (A:vV P f.type=mB (s,b)) (r:s≠0):RD P E F o (.pointer (mB (a.add f.offset))):=by
 simp [RD,execOp,h,g,Instr.fieldAt,Instr.sureAddr,am,aA B,w,qhd A r]
theorem uJ {t off:Nat} {d:TypeDesc} {cs:Array Value} {v:Value} (h:P.underlying t=mB d) (g:kY d=nS) (r:cs[off]? =mB v):s9 P (part t cs off) F v:=by simp [part,am,dm h,g,r]
theorem FZ {t off s b:Nat} {d:TypeDesc} {cs:Array Value} (h:P.underlying t=mB d) (g:kY d=nZ) (r:vV P t=mB (s,b)):s9 P (part t cs off) F (.agg (cs.extract off (off+s))):=by simp [part,am,dm h,g,bu r]
theorem JN {x:Operand} {t i:Nat} {cs:Array Value} {fs:Array Field} {f:Field} {d:TypeDesc} {v:Value} (r:o.op=.field t x i) (g:ev E x=.agg cs) (C:P.underlying t=mB (.struct fs))
  (A:fs[i]? =mB f) (B:P.underlying f.type=mB d) (h:kY d=nS) (w:cs[f.offset]? =mB v):RD P E F o v:=by
 simp only [RD,execOp,r,g,Instr.field,am,aA C,asAgg,cH];exact ⟨v,⟨_,rfl,by simp only [A,am,cH,exists_eq_left'];exact uJ B h w⟩,rfl⟩
theorem JO {x:Operand} {t i s b:Nat} {cs:Array Value} {fs:Array Field} {f:Field} {d:TypeDesc} (w:o.op=.field t x i) (g:ev E x=.agg cs) (C:P.underlying t=mB (.struct fs))
  (A:fs[i]? =mB f) (B:P.underlying f.type=mB d) (r:kY d=nZ) (h:vV P f.type=mB (s,b)):RD P E F o (.agg (cs.extract f.offset (f.offset+s))):=by
 simp only [RD,execOp,w,g,Instr.field,am,aA C,asAgg,cH];exact ⟨_,⟨_,rfl,by simp only [A,am,cH,exists_eq_left'];exact FZ B r h⟩,rfl⟩
theorem qhk {x y:Operand} {t e' s b:Nat} {qa5:Addr} {len cap:Nat} {k:IntKind} {i:Int} (r:o.op=.indexAddr t x y) (g:ev E x=.slice (mB qa5) len cap) (C:ev E y=.int k i)
  (B:P.underlying t=mB (.slice e')) (w:vV P e'=mB (s,b)) (A:0<=i) (h:i<len):RD P E F o (.pointer (mB (qa5.add (i.toNat*s)))):=by
 simp [RD,execOp,r,g,C,Instr.indexAt,asIntOf,am,aA B,A,h,bu w]
theorem qhl {x y:Operand} {t e' s b n:Nat} {qa5:Addr} {k:IntKind} {i:Int} (r:o.op=.indexAddr t x y) (g:ev E x=.pointer (mB qa5)) (C:ev E y=.int k i)
  (B:P.underlying t=mB (.array n e')) (w:vV P e'=mB (s,b)) (A:0<=i) (h:i<n):RD P E F o (.pointer (mB (qa5.add (i.toNat*s)))):=by
 simp [RD,execOp,r,g,C,Instr.indexAt,asIntOf,am,aA B,A,h,bu w,Instr.sureAddr]
theorem BR {x y:Operand} {t:Nat} {st:ByteArray} {k:IntKind} {i:Int} (r:o.op=.index t x y) (h:ev E x=.string st) (B:ev E y=.int k i)
  (A:P.underlying t=mB .string) (w:0<=i) (C:i<st.size):RD P E F o (.int .u8 (st[i.toNat]'(by omega)).toNat):=by
 have g:i.toNat<st.size:=by omega
 have:st[i.toNat]? =mB (st[i.toNat]' g):=getElem?_pos st i.toNat g;simp [RD,execOp,r,h,B,Instr.index,asIntOf,am,aA A,w,this]
theorem qh4 {x y:Operand} {t e' n s b:Nat} {cs:Array Value} {k:IntKind} {i:Int} {d:TypeDesc} {v:Value} (w:o.op=.index t x y) (h:ev E x=.agg cs) (G:ev E y=.int k i)
  (D:P.underlying t=mB (.array n e')) (B:vV P e'=mB (s,b)) (hd:P.underlying e'=mB d) (g:kY d=nS) (C:0<=i) (r:i<n) (A:cs[i.toNat*s]? =mB v):RD P E F o v:=by
 simp only [RD,execOp,w,h,G,Instr.index,asIntOf,am,aA D,cH];refine ⟨v,⟨(k,i),rfl,.array n e',rfl,?_⟩,rfl⟩;simp only [C,r,and_self,if_true,am,bu B];exact ⟨_,rfl,uJ hd g A⟩
theorem co {k:IntKind} {i:Int} {y:Nat} {c:BoundsCode} (h:0<=i) (g:i<=y) (v:Nat):s9 P (Instr.sliceBound (.int k i) y c) F v↔i.toNat=v:=by simp [Instr.sliceBound,asIntOf,h,g]
def dn (v:Option Value) (dflt:Nat) (r:Nat):Prop:=(v=nC/\r=dflt)\/∃k i,v=mB (.int k i)/\0<=i/\i.toNat=r
theorem eJ {sl:Bool} {len cap:Nat} {lo hi:Option Value} {l h:Nat} (D:dn hi len h) (C:dn lo 0 l) (H:l<=h) (G:h<=cap) (v:Nat×Nat×Nat):
  s9 P (Instr.sliceBounds sl len cap lo hi nC) F v↔(l,h,cap)=v:=by
 rcases D with ⟨rfl,rfl⟩|⟨k,i,rfl,g,rfl⟩<;>rcases C with ⟨rfl,rfl⟩|⟨B,j,rfl,r,rfl⟩
 ·simp [Instr.sliceBounds]
 ·have A:∀c x,s9 P (Instr.sliceBound (.int B j) h c) F x↔j.toNat=x:=λc x=>co r (by omega) x;cases sl<;>simp [Instr.sliceBounds,A]
 ·have w:∀c x,s9 P (Instr.sliceBound (.int k i) cap c) F x↔i.toNat=x:=λc x=>co g (by omega) x;cases sl<;>simp [Instr.sliceBounds,w]
 ·have w:∀c x,s9 P (Instr.sliceBound (.int k i) cap c) F x↔i.toNat=x:=λc x=>co g (by omega) x;have A:∀c x,s9 P (Instr.sliceBound (.int B j) i.toNat c) F x↔j.toNat=x:=λc x=>co r (by omega) x;cases sl<;>simp [Instr.sliceBounds,am,w,A]
theorem qgY {sl:Bool} {len cap:Nat} {lo:Option Value} {k k':IntKind} {i m:Int} {l:Nat} (B:dn lo 0 l) (C:0<=i) (r:0<=m) (I:l<=i.toNat) (H:i<=m) (D:m<=cap) (v:Nat×Nat×Nat):
  s9 P (Instr.sliceBounds sl len cap lo (mB (.int k i)) (mB (.int k' m))) F v↔(l,i.toNat,m.toNat)=v:=by
 have w:∀c x,s9 P (Instr.sliceBound (.int k' m) cap c) F x↔m.toNat=x:=λc x=>co r D x;have A:∀c x,s9 P (Instr.sliceBound (.int k i) m.toNat c) F x↔i.toNat=x:=λc x=>co C (by omega) x;rcases B with ⟨rfl,rfl⟩|⟨g,j,rfl,h,rfl⟩
 ·cases sl<;>simp [Instr.sliceBounds,am,w,A]
 ·have G:∀c x,s9 P (Instr.sliceBound (.int g j) i.toNat c) F x↔j.toNat=x:=λc x=>co h (by omega) x;cases sl<;>simp [Instr.sliceBounds,am,w,A,G]
def Sl.cut (s:Sl) (size l h m:Nat):Sl:=⟨if m=l then s.qa5 else s.qa5.map (·.add (l*size)),h - l,m - l⟩
theorem Gb {x:Operand} {lo hi:Option Operand} {t e' size b:Nat} {s:Sl} {l h:Nat} (A:o.op=.slice t x lo hi nC) (g:ev E x=s.v) (D:P.underlying t=mB (.slice e')) (B:vV P e'=mB (size,b))
  (w:dn (lo.map (ev E)) 0 l) (G:dn (hi.map (ev E)) s.len h) (C:l<=h) (r:h<=s.cap):RD P E F o (s.cut size l h s.cap).v:=by
 have:=eJ (P:=P) (F:=F) (sl:=nZ) G w C r;simp [RD,execOp,A,g,Instr.sliceAt,Instr.slice,Sl.v,Sl.cut,am,aA D,bu B,this]
theorem BS {x hi r:Operand} {lo:Option Operand} {t e' size b:Nat} {s:Sl} {l:Nat} {k k':IntKind} {i m:Int} (D:o.op=.slice t x lo (mB hi) (mB r)) (w:ev E x=s.v) (J:P.underlying t=mB (.slice e')) (G:vV P e'=mB (size,b))
  (C:dn (lo.map (ev E)) 0 l) (h:ev E hi=.int k i) (K:ev E r=.int k' m) (H:0<=i) (g:0<=m) (I:l<=i.toNat) (B:i<=m) (A:m<=s.cap):RD P E F o (s.cut size l i.toNat m.toNat).v:=by
 have:=qgY (P:=P) (F:=F) (sl:=nZ) (len:=s.len) (k:=k) (k':=k') C H g I B A;simp [RD,execOp,D,w,Instr.sliceAt,Instr.slice,Sl.v,Sl.cut,am,aA J,bu G,h,K,this]
theorem uK {x:Operand} {lo hi:Option Operand} {t e' size b n:Nat} {a:Addr} {l h:Nat} (A:o.op=.slice t x lo hi nC) (g:ev E x=.pointer (mB a)) (D:P.underlying t=mB (.array n e')) (B:vV P e'=mB (size,b))
  (w:dn (lo.map (ev E)) 0 l) (G:dn (hi.map (ev E)) n h) (C:l<=h) (r:h<=n):RD P E F o (Sl.cut ⟨mB a,n,n⟩ size l h n).v:=by
 have:=eJ (P:=P) (F:=F) (sl:=nS) G w C r;simp [RD,execOp,A,g,Instr.sliceAt,Instr.sureAddr,Sl.v,Sl.cut,am,aA D,bu B,this];split<;>rfl
theorem BT {x:Operand} {lo hi:Option Operand} {t:Nat} {s:ByteArray} {l h:Nat} (A:o.op=.slice t x lo hi nC) (g:ev E x=.string s) (C:P.underlying t=mB .string)
  (w:dn (lo.map (ev E)) 0 l) (D:dn (hi.map (ev E)) s.size h) (B:l<=h) (r:h<=s.size):RD P E F o (.string (s.extract l h)):=by
 have:=eJ (P:=P) (F:=F) (sl:=nS) D w B r;simp [RD,execOp,A,g,Instr.sliceAt,Instr.slice,am,aA C,this]
end
section
variable {P:Program} {F:PH} {E:En} {o:Oper} {K:En->PH->Prop}
def mC (P:Program) (fs:Array Field):Array (Nat×Nat):=fs.map λf=>(f.offset,P.cellsOf f.type)
def jf (P:Program) (fs:Array Field):Bool:=fs.all λf=>(P.info? f.type).isSome
theorem qhS {t:Nat} (h:(P.info? t).isSome=nZ):s9 P (sizeOf t) F (P.cellsOf t):=by
 cases hi:P.info? t with
 |none=>simp [hi] at h
 |some i=>
  have:vV P t=mB (i.size,i.bytes):=by simp [vV,hi]
  rw [bu this];simp [Program.cellsOf,hi]
theorem kC {α r:Type} (f:α->Sem r) (g:α->r):∀(l:List α),(∀x∈l,s9 P (f x) F (g x))->s9 P (l.mapM f) F (l.map g)
 |[],_=>by simp
 |x::l,h=>by have A:=h x (Xw ..);have w:=kC f g l λy B=>h y (VB _ B);simp only [List.mapM_cons,am,xV];exact ⟨_,A,_,w,rfl⟩
theorem BU {fs:Array Field} (h:jf P fs=nZ):s9 P (fs.mapM λf=>do pure (f.offset,<- sizeOf f.type)) F (mC P fs):=by
 have g:∀f∈fs.toList,(P.info? f.type).isSome=nZ:=by intro f r;have:=Array.all_eq_true_iff_forall_mem.1 h f (by simpa using r);exact this
 rw [Array.mapM_eq_mapM_toList];have:=kC (P:=P) (F:=F) (λf:Field=>(do pure (f.offset,<- sizeOf f.type):Sem (Nat×Nat))) (λf=>(f.offset,P.cellsOf f.type)) fs.toList
  (λf r=>by simp only [am];exact ⟨_,qhS (g f r),rfl⟩)
 refine (M2 _ _ _ _).2 ⟨_,this,?_⟩;apply Array.ext';simp [mC]
theorem qhm {t:Nat} {g:Array (Nat×Operand)} {fs:Array Field} {z:Value} {vs:List (Nat×Value)} {cells:Array Value} (r:o.op=.build t g) (C:P.underlying t=mB (.struct fs)) (B:bv P t=mB z)
  (h:jf P fs=nZ) (A:(g.map λ(i,x)=>(i,ev E x)).toList=vs) (w:Instr.fill (λi=>(mC P fs)[i]?) z.cells vs=mB cells):RD P E F o (.agg cells):=by
 simp only [RD,execOp,r,am,Instr.build,cH];refine ⟨_,⟨_,(gA B _).2 rfl,_,(aA C _).2 rfl,?_⟩,rfl⟩;simp only [am];refine ⟨_,by have:=BU (P:=P) (F:=F) h;simpa [am] using this,?_⟩;rw [A,w];rfl
theorem qhK {t n e' s b:Nat} {g:Array (Nat×Operand)} {z:Value} {vs:List (Nat×Value)} {cells:Array Value} (h:o.op=.build t g) (C:P.underlying t=mB (.array n e')) (B:bv P t=mB z)
  (r:vV P e'=mB (s,b)) (w:(g.map λ(i,x)=>(i,ev E x)).toList=vs) (A:Instr.fill (λi=>mB (i*s,s)) z.cells vs=mB cells):RD P E F o (.agg cells):=by
 simp only [RD,execOp,h,am,Instr.build,cH];refine ⟨_,⟨_,(gA B _).2 rfl,_,(aA C _).2 rfl,?_⟩,rfl⟩;simp only [am,bu r,exists_eq_left'];rw [w,A];rfl
theorem M7 {t:Nat} {z:Value} (r:o.op=.alloc t) (g:bv P t=mB z) (h:∀b,F b=nC->K (cM E o.dst (.pointer (mB ⟨b,0,nC⟩))) (F.set b (mX z.cells t))):
  aH P (execOp (ev E) o) F (bJ P K o E):=by
 simp only [execOp,r,Instr.alloc,aE,d9 g,aM,bJ,newVar,newRow,newObj];exact h
theorem JP {t:Nat} {x:Operand} {v:Value} (r:o.op=.box t x) (g:ev E x=v) (h:∀b,F b=nC->K (cM E o.dst (.pointer (mB ⟨b,0,nC⟩))) (F.set b (mX v.cells t))):
  aH P (execOp (ev E) o) F (bJ P K o E):=by
 simp only [execOp,r,Instr.box,aE,aM,bJ,newVar,newRow,newObj,g];exact h
theorem iq {t e' s b n:Nat} {g:Array (Nat×Operand)} {z:Value} {vs:List (Nat×Value)} {cells:Array Value} (D:o.op=.buildSlice t n g) (I:P.underlying t=mB (.slice e')) (G:vV P e'=mB (s,b))
  (J:n*s<=16777216) (H:bv P e'=mB z) (C:(g.map λ(i,x)=>(i,ev E x)).toList=vs) (B:Instr.fill (λi=>mB (i*s,s)) (Builtin.zeroCells z.cells n) vs=mB cells) (A:n*s=n*z.cells.size)
  (h:∀b,F b=nC->K (cM E o.dst (.slice (mB ⟨b,0,nC⟩) n n)) (F.set b (mX cells e'))):
  aH P (execOp (ev E) o) F (bJ P K o E):=by
 simp only [execOp,D,Instr.buildSlice,aE,bW I,eZ G];rw [Υ (by omega)];by_cases w:n*s=0
 ·have r:(Array.range (n*s)).map (λi=>(#[]:Array Value)[i % (#[]:Array Value).size]!)=Builtin.zeroCells z.cells n:=by simp [Builtin.zeroCells,w,<- A]
  rw [Χ w];simp only [aE,aM];rw [r,C,B];simp only [aE,aM,newRow,newObj,bJ];exact h
 ·have r:(Array.range (n*s)).map (λi=>z.cells[i % z.cells.size]!)=Builtin.zeroCells z.cells n:=by simp [Builtin.zeroCells,A]
  rw [Υ w];simp only [aE,d9 H,aM];rw [r,C,B];simp only [aE,aM,newRow,newObj,bJ];exact h
def wr (c:Array Value) (off:Nat):List Value->Array Value
 |[]=>c
 |v::vs=>wr (c.setIfInBounds off v) (off+1) vs
theorem dG (vs:List Value):∀(c:Array Value) (off:Nat),(wr c off vs).size=c.size:=by
 induction vs with
 |nil=>intro c off;rfl
 |cons v vs ih=>intro c off;simp [wr,ih]
theorem wy (vs:List Value):∀(c:Array Value) (off i:Nat),off+vs.length<=c.size->(wr c off vs)[i]? =if off<=i/\i<off+vs.length then vs[i - off]? else c[i]? :=by
 induction vs with
 |nil=>intro c off i _;simp [wr];omega
 |cons v vs ih=>
  intro c off i h;simp only [wo] at h;rw [wr,ih _ _ _ (by simp;omega),Array.getElem?_setIfInBounds];by_cases r:off=i
  ·subst r;rw [Υ (by omega),Χ rfl,Χ (by omega),Χ (by simp)];simp
  ·by_cases g:off+1<=i/\i<off+1+vs.length
   ·rw [Χ g,Χ (by simp;omega)];rw [show i - off=(i - (off+1))+1 by omega,V6]
   ·rw [Υ g,Υ r,Υ (by simp;omega)]
theorem set_set (F:PH) (b:Nat) (o o':Obj):(F.set b o).set b o'=F.set b o':=by funext x;unfold PH.set;split<;>rfl
theorem M8 (F:PH) (b:Nat) (o:Obj):(F.set b o) b=mB o:=by simp [PH.set]
theorem BV (F:PH) {b x:Nat} (o:Obj) (h:x≠b):(F.set b o) x=F x:=by simp [PH.set,h]
theorem fk {e':TypeId}:∀(vs:List Value) (i:Nat) (F:PH) (a:Addr) (c:Array Value) (Q:Unit->PH->Prop),a.spot=nC->F a.block=mB (mX c e' (0,0))->a.off+i+vs.length<=c.size->
  (∀v∈vs,ak v)->vs≠[]->Q () (F.set a.block (mX (wr c (a.off+i) vs) e'))->aH P (storeCells a vs i) F Q:=by
 intro vs;induction vs with
 |nil=>intro i F a c Q _ _ _ _ h;exact absurd rfl h
 |cons v vs ih=>
  intro i F a c Q B H C w _ D;simp only [wo] at C;have r:(a.add i).off=a.off+i:=by unfold od;split<;>simp_all
  have g:(a.add i).block=a.block:=by unfold od;split<;>rfl
  have A:(a.add i).spot=nC:=by unfold od;split<;>simp_all
  simp only [storeCells,aE,store,aH];refine ⟨w v (Xw ..),c,e',(0,0),by rw [g];exact H,A,by rw [r];omega,by simp [YI],?_⟩;rw [g,r];cases vs with
  |nil=>exact D
  |cons u us=>refine ih (i+1) _ a (c.setIfInBounds (a.off+i) v) Q B (M8 _ _ _) (by simp;simp at C;omega) (λx G=>w x (VB _ G)) (by simp) ?_;rw [set_set];exact D
theorem JQ {t:Nat} {x y:Operand} {a:Addr} {v:Value} {c:Array Value} {e' s b:Nat} (B:o.op=.store t x y) (A:ev E x=.pointer (mB a)) (H:ev E y=v) (r:vV P t=mB (s,b)) (G:v.cells= #[v]) (C:s=1) (w:ak v)
  (g:a.spot=nC) (D:F a.block=mB (mX c e' (0,0))) (I:a.off<c.size) (h:K (cM E o.dst undef) (F.set a.block (mX (c.setIfInBounds a.off v) e'))):
  aH P (execOp (ev E) o) F (bJ P K o E):=by
 subst C;simp only [execOp,B,A,H,Instr.storeAt,Instr.sureAddr,aE,aM,storeVar,eZ r,G];simp only [XH,wo,WZ,ne_eq,yp,not_true_eq_false,if_false];refine fk [v] 0 F a c _ g D (by simp;omega) (by simpa using w) (by simp) ?_;exact h
theorem JR {t:Nat} {x y:Operand} {a:Addr} {vs c:Array Value} {e' s b:Nat} (C:o.op=.store t x y) (A:ev E x=.pointer (mB a)) (I:ev E y=.agg vs) (r:vV P t=mB (s,b)) (D:vs.size=s) (w:∀v∈vs.toList,ak v)
  (H:vs.toList≠[]) (g:a.spot=nC) (G:F a.block=mB (mX c e' (0,0))) (B:a.off+s<=c.size) (h:K (cM E o.dst undef) (F.set a.block (mX (wr c a.off vs.toList) e'))):
  aH P (execOp (ev E) o) F (bJ P K o E):=by
 subst D;simp only [execOp,C,A,I,Instr.storeAt,Instr.sureAddr,aE,aM,storeVar,eZ r,Value.cells];simp only [ne_eq,not_true_eq_false,if_false];exact fk vs.toList 0 F a c _ g G (by simpa using B) w H h
def aG (P:Program) (f:FuncId):Bool:=match P.funcs[f]? with|some fn=> !(fn.name== "runtime.NumGoroutine") && fn.body.isSome|none=>nS
theorem kD {f:FuncId} {args:Array Value} {Q:Next->PH->Prop} (g:aG P f=nZ) (h:Q (.enter f args) F):aH P (callFunc f args) F Q:=by
 unfold aG at g;cases hf:P.funcs[f]? with
 |none=>simp [hf] at g
 |some r=>
  simp only [hf,Vv,Bool.not_eq_true'] at g;simp only [callFunc,aE,program,aH,hf,g.1];have:r.body.isNone=nS:=by cases hb:r.body<;>simp_all
  simp only [this,VQ,if_false,aM];exact h
theorem SJ {f:FuncId} {args:Array Operand} {B:Array TypeId} {vs:Array Value} (r:o.op=.call {callee:=.value (.func f),args:=args,argTypes:=B}) (w:aG P f=nZ) (A:args.map (ev E)=vs)
  (h:aj P f vs F λv g=>K (cM E o.dst v) g):aH P (execOp (ev E) o) F (bJ P K o E):=by
 simp only [execOp,r,resolve,ev,Deferred.ofValue,aE,aM,invoke];refine kD w ?_;rw [show args.map (λx=>ev E x)=vs from A];simpa [bJ] using h
theorem Em {f:FuncId} {g:Operand} {args:Array Operand} {D:Array TypeId} {vs first captured:Array Value} (A:o.op=.call {callee:=.value g,args:=args,argTypes:=D}) (w:ev E g=.func (.func f) first captured) (B:aG P f=nZ) (C:args.map (ev E)=vs)
  (h:aj P f (first++vs++captured) F λv r=>K (cM E o.dst v) r):aH P (execOp (ev E) o) F (bJ P K o E):=by
 simp only [execOp,A,resolve,w,Deferred.ofValue,aE,aM,invoke];refine kD B ?_;rw [show args.map (λx=>ev E x)=vs from C];exact h
theorem M9 {f:FuncId} {g:Operand} {args:Array Operand} {A:Array TypeId} {vs first captured:Array Value} (B:o.op=.defer {callee:=.value g,args:=args,argTypes:=A}) (w:ev E g=.func (.func f) first captured) (r:args.map (ev E)=vs)
  (hi:BJ P ⟨.fn (.func f) captured,first++vs⟩) (h:K (cM E o.dst undef) F):aH P (execOp (ev E) o) F (bJ P K o E):=by
 simp only [execOp,B,resolve,w,Deferred.ofValue,aE,aM];rw [show args.map (λx=>ev E x)=vs from r];exact ⟨hi,h⟩
theorem JS {x y:Operand} {g:Array TypeId} {s u:Value} (A:o.op=.call {callee:=.builtin .append,args:= #[x,y],argTypes:=g}) (w:ev E x=s) (B:ev E y=u)
  (h:aH P (Builtin.append_ g o.type #[s,u]) F λv r=>K (cM E o.dst v) r):aH P (execOp (ev E) o) F (bJ P K o E):=by
 simp [execOp,A,resolve,w,B,invoke,builtin,bJ];exact h
theorem SK {x y:Operand} {g:Array TypeId} {s u:Value} (A:o.op=.call {callee:=.builtin .copy,args:= #[x,y],argTypes:=g}) (w:ev E x=s) (B:ev E y=u)
  (h:aH P (Builtin.copy_ g o.type #[s,u]) F λv r=>K (cM E o.dst v) r):aH P (execOp (ev E) o) F (bJ P K o E):=by
 simp [execOp,A,resolve,w,B,invoke,builtin,bJ];exact h
theorem qhT {t:TypeId} {x y:Operand} {u v:Value} (A:o.op=.makeSlice t x y) (r:ev E x=u) (w:ev E y=v)
  (h:aH P (Instr.makeSlice t u v) F λv g=>K (cM E o.dst v) g):aH P (execOp (ev E) o) F (bJ P K o E):=by
 simp [execOp,A,r,w,bJ];exact h
theorem BW {t:TypeId} (g:o.op=.makeMap t nC) (h:∀b,F b=nC->K (cM E o.dst (.map (mB b))) (F.set b (.map #[] 0))):
  aH P (execOp (ev E) o) F (bJ P K o E):=by
 simp only [execOp,g,Instr.makeMap,Option.map_none,newObj,aE,aM,aH,bJ];exact h
theorem oJ {t:TypeId} {x y z:Operand} {u v q:Value} (w:o.op=.mapUpdate t x y z) (r:ev E x=u) (B:ev E y=v) (A:ev E z=q)
  (h:aH P (Instr.mapUpdate t u v q) F λ_ g=>K (cM E o.dst undef) g):aH P (execOp (ev E) o) F (bJ P K o E):=by
 simp only [execOp,w,r,B,A,aE,aM,bJ];exact h
theorem y7 {t:TypeId} {x y:Operand} {u v r:Value} {ok:Bool} (A:o.op=.lookup t x y ok) (g:ev E x=u) (w:ev E y=v) (h:s9 P (Instr.lookup t u v ok) F r):RD P E F o r:=by simp only [RD,execOp,A,g,w,am,cH];exact ⟨r,h,rfl⟩
end
def wn (F:PH) (K:PH->Prop):Prop:=K F
theorem Yo {F:PH} {K:PH->Prop} (h:wn F K):K F:=h
theorem tP {F:PH} {K:PH->Prop} (h:K F):wn F K:=h
section
variable {P:Program} {n:Nat} {Q:Exit->En->PH->Prop} {E:En} {F:PH} {ops:Array Oper} {l:List Oper} {d:Tmp} {op:Op} {ty:TypeId} {pos:String} {aft:Array Edge} {v:Value} {gd:Option (Nat×Bool)}
theorem y8 {t:Nat} (h:E t=v):upd E t v=E:=by
 funext x;unfold upd;by_cases g:x=t
 ·subst g;have:Nat.beq x x=nZ:=by simp
  rw [this];exact h.symm
 ·rw [kX g];rfl
theorem JT {c:Operand} {x y:Code} (g:ev E c=.bool nZ) (h:HC P n x Q E F):HC P n (.cond c x y) Q E F:=p7 g (λ_=>h) (λh=>by cases h)
theorem JU {c:Operand} {x y:Code} (g:ev E c=.bool nS) (h:HC P n y Q E F):HC P n (.cond c x y) Q E F:=p7 g (λh=>by cases h) (λ_=>h)
section
variable {K:En->PH->Prop}
theorem PF {g:Nat->Option (Nat×Nat)} {cells r:Array Value} {i off:Nat} {v:Value} {rest:List (Nat×Value)} (B:g i=mB (off,1)) (C:v.cells= #[v]) (A:Nat.blt off cells.size=nZ)
  (h:Instr.fill g (cells.setIfInBounds off v) rest=mB r):Instr.fill g cells ((i,v)::rest)=mB r:=by
 have w:off<cells.size:=Zh A;simp only [Instr.fill,B,C];simp only [XH,wo,WZ];rw [Υ (by simp;omega)];simpa using h
theorem JV (vs:List Value):∀(c:Array Value) (off k:Nat),(vs.zipIdx k).foldl (λcs (x:Value×Nat)=>cs.setIfInBounds (off+x.2) x.1) c=wr c (off+k) vs:=by
 induction vs with
 |nil=>intro c off k;rfl
 |cons v vs ih=>intro c off k;simp only [List.zipIdx_cons,List.foldl_cons,wr];rw [ih];rfl
theorem PG {g:Nat->Option (Nat×Nat)} {cells cs r:Array Value} {i off s:Nat} {rest:List (Nat×Value)} (C:g i=mB (off,s)) (B:cs.size=s) (A:Nat.ble (off+s) cells.size=nZ)
  (h:Instr.fill g (wr cells off cs.toList) rest=mB r):Instr.fill g cells ((i,.agg cs)::rest)=mB r:=by
 have w:off+s<=cells.size:=Zh A;subst B;have e:cs.zipIdx.foldl (λcs (x:Value×Nat)=>cs.setIfInBounds (off+x.2) x.1) cells=wr cells off cs.toList:=by have:=JV cs.toList cells off 0;rw [<- Array.foldl_toList];simpa using this
 unfold Instr.fill;rw [C];show (if (decide (cs.size≠cs.size) || decide (off+cs.size>cells.size))=nZ then nC else Instr.fill g (cs.zipIdx.foldl (λcs (x:Value×Nat)=>cs.setIfInBounds (off+x.2) x.1) cells) rest)=mB r;rw [e,Υ (by simp;omega)];exact h
theorem qh (z:Array Value) (A:Nat.blt 0 z.size=nZ):∀n,Builtin.zeroCells z n=((List.replicate n z.toList).flatten).toArray:=by
 have r:0<z.size:=Zh A;intro n;apply Array.ext';apply List.ext_getElem
 ·simp [Builtin.zeroCells,List.length_flatten]
 ·intro i C w;simp only [Builtin.zeroCells,Array.toList_map,Array.toList_range,Yy,List.getElem_range];have key:∀n i (h:i<((List.replicate n z.toList).flatten).length),((List.replicate n z.toList).flatten)[i]=z[i % z.size]! :=by
   intro n;induction n with
   |zero=>intro i h;simp at h
   |succ n ih=>
    intro i h;have e:(List.replicate (n+1) z.toList).flatten=z.toList++(List.replicate n z.toList).flatten:=by simp [List.replicate_succ]
    by_cases hi:i<z.size
    ·have:((List.replicate (n+1) z.toList).flatten)[i]=z.toList[i]'(by simpa using hi):=by simp only [e];rw [List.getElem_append_left]
     rw [this,Nat.mod_eq_of_lt hi];simp [hi]
    ·have g:i - z.size<((List.replicate n z.toList).flatten).length:=by simp [List.length_flatten,Wa] at h ⊢;omega
     have:((List.replicate (n+1) z.toList).flatten)[i]=((List.replicate n z.toList).flatten)[i - z.size]:=by simp only [e];rw [List.getElem_append_right (by simpa using hi)];simp
     have B:i % z.size=(i - z.size) % z.size:=Nat.mod_eq_sub_mod (by omega);rw [this,ih _ g,B]
  exact (key n i (by simpa using w)).symm
theorem Gc {z:Value} {cs:Array Value} {s:Nat} (h:cs.size=s) (g:z.cells.size=s) (A:Nat.blt 0 s=nZ):Instr.fill (λi=>mB (i*s,s)) (Builtin.zeroCells z.cells 1) [(0,.agg cs)]=mB cs:=by
 have r:Nat.blt 0 z.cells.size=nZ:=by rw [g];exact A
 rw [qh _ r];have e:((List.replicate 1 z.cells.toList).flatten).toArray=z.cells:=by simp
 rw [e];refine PG (off:=0*s) rfl h (by rw [g];simp) ?_;have B:wr z.cells 0 cs.toList=cs:=by
  apply Array.ext
  ·rw [dG,g,h]
  ·intro i r w;have:=wy cs.toList z.cells 0 i (by simp [g,h]);rw [Χ (by simp;omega)] at this;simp only [VV] at this;rw [Wh r] at this;simp at this;rw [Wh w] at this;exact yV this
 rw [show 0*s=0 by omega,B];rfl
def Na:List Value->Prop
 |[]=>True
 |v::l=>v.cells= #[v]/\Na l
def Eo (k:Nat):List Value->List (Nat×Value)
 |[]=>[]
 |v::l=>(k,v)::Eo (k+1) l
theorem Ge:∀(l:List Value) (k:Nat) (cells:Array Value),Na l->k+l.length<=cells.size->Instr.fill (λi=>mB (i*1,1)) cells (Eo k l)=mB (wr cells k l):=by
 intro l;induction l with
 |nil=>intro k cells _ _;rfl
 |cons v l ih=>intro k cells g h;simp only [wo] at h;refine PF (off:=k) (by simp) g.1 (Nat.ble_eq_true_of_le (by omega)) ?_;exact ih (k+1) _ g.2 (by simp;omega)
theorem Nc {z:Value} {l:List Value} {m:Nat} {cells0:Array Value} (C:l.length=m) (A:Builtin.zeroCells z.cells m=cells0) (w:z.cells.size=1) (r:Na l):Instr.fill (λi=>mB (i*1,1)) cells0 (Eo 0 l)=mB l.toArray:=by
 subst C;subst A;have g:(Builtin.zeroCells z.cells l.length).size=l.length:=by simp [Builtin.zeroCells,w]
 rw [Ge l 0 _ r (by rw [g];omega)];congr 1;apply Array.ext
 ·rw [dG,g];simp
 ·intro i B h;have:=wy l (Builtin.zeroCells z.cells l.length) 0 i (by rw [g];omega);rw [Χ (by simp at h;omega)] at this;simp only [VV] at this;rw [Wh B] at this;simp at h;rw [N5 h] at this;simpa using yV this
end
theorem PI {x:Operand} {k:IntKind} {i:Int} {m:Nat} (g:ev E x=.int k i) (h:0<=i):dn (Option.map (ev E) (mB x)) m i.toNat:=.inr ⟨k,i,by simp [g],h,rfl⟩
theorem wz {m:Nat}:dn nC m m:=.inl ⟨rfl,rfl⟩
theorem PJ:fN [] F:=λ_ h=>by cases h
theorem PK {i:Nat} {S:World->Prop} {w:cn} (h:BM F S) (A:fN w F):fN ((i,S)::w) F:=λr g=>by
 rcases tQ.1 g with rfl|g
 ·exact h
 ·exact A r g
theorem PL {tmps:Array Value} {t:Nat} {v u:Value} (h:Array.getD tmps t undef=v) (g:v=u):tmps[t]?.getD undef=u:=by rw [<- Zc,h,g]
theorem JW {t s:Nat} {dd:TypeDesc} {a:Addr} {cs:Array Value} {b:Nat} {e:Ev} {w:World} (st:Sat e w F) (B:P.underlying t=mB dd) (r:kY dd=nZ) (A:vV P t=mB (s,b)) (h:cs.size=s) (g:F.row a cs):
  (loadVar t a).run P w=.ok (.agg cs) w:=by
 subst h;refine qe _ F w _ ?_ st;simp [loadVar,am,dm B,r,bu A,eT g]
theorem jK {t:TypeId} {dd:TypeDesc} {a:Addr} {e:Ev} {w:World} (st:Sat e w F) (h:P.underlying t=mB dd) (g:kY dd=nS) (r:F.cell a=mB v):
  (loadVar t a).run P w=.ok v w:=by
 refine qe _ F w _ ?_ st;simp [loadVar,am,dm h,g,load,s9,r]
def gM (P:Program) (E:En) (F:PH):ResultVar->Value->Prop
 | .tmp t,v=>E t=v
 | .cell x t,v=>∃a,E x=.pointer (mB a)/\∀e w,Sat e w F->(loadVar t a).run P w=.ok v w
theorem wA {t:Tmp} {v:Value} (g:E t=v):gM P E F (.tmp t) v:=g
theorem JX {x:Tmp} {t s:Nat} {dd:TypeDesc} {a:Addr} {cs:Array Value} {b:Nat} (g:E x=.pointer (mB a)) (B:P.underlying t=mB dd) (w:kY dd=nZ) (A:vV P t=mB (s,b)) (r:cs.size=s) (h:F.row a cs):
  gM P E F (.cell x t) (.agg cs):=⟨a,g,λ_ _ st=>JW st B w A r h⟩
theorem JY {x:Tmp} {t:Nat} {dd:TypeDesc} {a:Addr} {v:Value} (h:E x=.pointer (mB a)) (w:P.underlying t=mB dd) (g:kY dd=nS) (r:F.cell a=mB v):
  gM P E F (.cell x t) v:=⟨a,h,λ_ _ st=>jK st w g r⟩
theorem dM {r:ResultVar} {v:Value} (h:gM P E F r v) {e:Ev} {w:World} {tmps:Array Value} (st:Sat e w F) (g:∀t:Nat,Array.getD tmps t undef=E t):
  (∃t,r=.tmp t/\tmps[t]?.getD undef=v)\/∃x t a,r=.cell x t/\tmps[x]?.getD undef=.pointer (mB a)/\(loadVar t a).run P w=.ok v w:=by
 cases r with
 |tmp t=>exact .inl ⟨t,rfl,PL (g t) h⟩
 |cell x t=>obtain ⟨a,B,A⟩:=h;exact .inr ⟨x,t,a,rfl,PL (g x) B,A e w st⟩
theorem qgk {g:Func} (h:g.results= #[]):oI P g E F (.tuple #[]):=λe w r _ _=>by simp [results,h]
theorem WR {C:Func} {r:ResultVar} {v:Value} (h:C.results= #[r]) (B:gM P E F r v):oI P C E F v:=λe w g st A=>by have k:=dM B st A;clear A B;rcases k with ⟨t,rfl,D⟩|⟨x,t,a,rfl,D,G⟩<;>simp [results,asAddr, *]
theorem WT {H:Func} {r D:ResultVar} {v B:Value} (h:H.results= #[r,D]) (G:gM P E F r v) (g:gM P E F D B):oI P H E F (.tuple #[v,B]):=λe w C st A=>by have k:=dM G st A;have I:=dM g st A;clear A G g;rcases k with ⟨t,rfl,L⟩|⟨x,t,a,rfl,L,O⟩<;>rcases I with ⟨J,rfl,K⟩|⟨R,J,M,rfl,K,N⟩<;>simp [results,asAddr, *]
theorem qgl {I:Func} {r L A:ResultVar} {v M C:Value} (h:I.results= #[r,L,A]) (J:gM P E F r v) (B:gM P E F L M) (g:gM P E F A C):oI P I E F (.tuple #[v,M,C]):=λe w K st D=>by have k:=dM J st D;have W:=dM B st D;have H:=dM g st D;clear D J B g;rcases k with ⟨t,rfl,U⟩|⟨x,t,a,rfl,U,h2⟩<;>rcases W with ⟨X,rfl,R⟩|⟨Y,X,Z,rfl,R,h4⟩<;>rcases H with ⟨G,rfl,O⟩|⟨N,G,V,rfl,O,h6⟩<;>simp [results,asAddr, *]
theorem rt1 (g:Func) (R:Value->PH->Prop) {t:Tmp} {v:Value} (w:g.results= #[.tmp t]) (r:E t=v) (h:R v F):MW P g R .ret E F:=⟨v,WR w (wA r),h⟩
theorem rt2 (w:Func) (R:Value->PH->Prop) {t r:Tmp} {v g:Value} (C:w.results= #[.tmp t,.tmp r]) (A:E t=v) (B:E r=g) (h:R (.tuple #[v,g]) F):MW P w R .ret E F:=⟨_,WT C (wA A) (wA B),h⟩
theorem jg {k:IntKind} {x:Int}:ak (.int k x):=⟨(λ_ h=>by cases h),(λ_ h=>by cases h)⟩
theorem JZ {x:Sl}:ak x.v:=⟨(λ_ h=>by cases h),(λ_ h=>by cases h)⟩
end
theorem au (F:PH):F.le F:=λ_ _ h=>h
theorem aa {F G H:PH} (h:F.le G) (k:G.le H):F.le H:=λb o g=>k b o (h b o g)
theorem ae {F:PH} {b:Nat} (o:Obj) (h:F b=nC):F.le (F.set b o):=λx w g=>by
 unfold PH.set;by_cases r:x=b
 ·subst r;rw [h] at g;cases g
 ·simp [r,g]
theorem aK {F G:PH} (h:F.le G) {a:Addr} {v:Value} (g:F.cell a=mB v):G.cell a=mB v:=by
 unfold PH.cell at*;cases hb:F a.block with
 |none=>simp [hb] at g
 |some o=>rw [h _ _ hb];rw [hb] at g;exact g
theorem aU {F G:PH} (h:F.le G) {b:Nat} (g:G b=nC):F b=nC:=by
 cases hf:F b with
 |none=>rfl
 |some o=>rw [h _ _ hf] at g;cases g
theorem aI {F:PH} {b c:Nat} {o:Obj} (h:F b=nC) (g:F c=mB o):c≠b:=by intro e;subst e;rw [h] at g;cases g
@[simp] theorem aJ (b o i:Nat):od ⟨b,o,nC⟩ i=⟨b,o+i,nC⟩:=by unfold od;split<;>simp_all
@[simp] theorem aq (F:PH) (b:Nat) (o:Obj):(F.set b o) b=mB o:=by simp [PH.set]
theorem aw (F:PH) {b x:Nat} (o:Obj) (h:x≠b):(F.set b o) x=F x:=by simp [PH.set,h]
@[simp] theorem aS (F:PH) (b:Nat) (o o':Obj):(F.set b o).set b o'=F.set b o':=set_set F b o o'
theorem av {F:PH} {b i:Nat} {c:Array Value} {e:TypeId} {fr:Nat×Nat} (h:F b=mB (mX c e fr)):F.cell ⟨b,i,nC⟩=c[i]? :=by simp [PH.cell,h]
@[simp] theorem qim (F:PH) (b i:Nat) (c:Array Value) (e:TypeId) (fr:Nat×Nat):(F.set b (mX c e fr)).cell ⟨b,i,nC⟩=c[i]? :=by simp [PH.cell]
def dh (fp:Nat->Prop) (F G:PH):Prop:=∀b o,F b=mB o->¬fp b->G b=mB o
theorem dh.refl (g:Nat->Prop) (F:PH):dh g F F:=λ_ _ h _=>h
theorem dh.trans {g:Nat->Prop} {F G H:PH} (h:dh g F G) (k:dh g G H):dh g F H:=λb o w r=>k b o (h b o w r) r
theorem dh.of_le {g:Nat->Prop} {F G:PH} (h:F.le G):dh g F G:=λb o r _=>h b o r
theorem dh.set {r:Nat->Prop} {F:PH} {b:Nat} (o:Obj) (h:r b\/F b=nC):dh r F (F.set b o):=λx B g A=>by
 by_cases w:x=b
 ·subst w;rcases h with h|h
  ·exact absurd h A
  ·rw [h] at g;cases g
 ·rw [aw F o w];exact g
structure RdS (F:PH) (s:Sl) (size:Nat) (vs:List Value):Prop where
 len:vs.length=s.len*size
 cap:s.len<=s.cap
 cells:0<s.len->∃b o,s.qa5=mB ⟨b,o,nC⟩/\∀i,(h:i<vs.length)->F.cell ⟨b,o+i,nC⟩=mB vs[i]
theorem RdS.le {F G:PH} {s:Sl} {size:Nat} {vs:List Value} (h:RdS F s size vs) (w:F.le G):RdS G s size vs:=
 ⟨h.len,h.cap,λA=>by
  obtain ⟨b,o,r,g⟩:=h.cells A
  exact ⟨b,o,r,λi hi=>aK w (g i hi)⟩⟩
theorem RdS.nil (F:PH) (size:Nat):RdS F Sl.nil size []:=⟨by simp [Sl.nil],by simp [Sl.nil],by simp [Sl.nil]⟩
theorem RdS.new {F:PH} {b n cap size:Nat} {c:Array Value} {e:TypeId} {fr:Nat×Nat} {vs:List Value} (h:F b=mB (mX c e fr)) (g:c.toList.take (n*size)=vs) (r:vs.length=n*size) (w:n<=cap):
  RdS F ⟨mB ⟨b,0,nC⟩,n,cap⟩ size vs:=⟨r,w,λ_=>⟨b,0,rfl,λi hi=>by
   rw [av h];subst g
   simp at hi ⊢⟩⟩
theorem RdS.row {F:PH} {s:Sl} {size:Nat} {vs:List Value} (h:RdS F s size vs) {a:Addr} (C:s.qa5=mB a) (k:Nat) (cs:Array Value) (w:cs.toList=(vs.drop k).take cs.size):F.row (a.add k) cs:=by
 intro i hi;have g:k+i<vs.length:=by have:=congrArg List.length w;rw [PM,WL,zA] at this;omega
 have D:0<s.len:=by
  rcases XL s.len with r|r
  ·have:=h.len;rw [r,V9] at this;omega
  ·exact r
 obtain ⟨b,o,B,E⟩:=h.cells D;rw [C] at B;cases B;simp only [aJ];rw [V7,E (k+i) g];have A:cs.toList[i]? =mB cs[i]:=by simp [hi]
 rw [w,YN hi,List.getElem?_drop,N5 g] at A;exact A
theorem RdS.cell {F:PH} {s:Sl} {vs:List Value} (h:RdS F s 1 vs) {a:Addr} (w:s.qa5=mB a) {i:Nat} (hi:i<vs.length):F.cell (a.add i)=mB vs[i]:=by
 have A:0<s.len:=by have:=h.len;omega
 obtain ⟨b,o,g,r⟩:=h.cells A;rw [w] at g;cases g;simp only [aJ];exact r i hi
theorem RdS.cut {F:PH} {s:Sl} {size:Nat} {vs:List Value} (h:RdS F s size vs) {l r m:Nat} (G:l<=r) (D:r<=s.len) (E:r<=m):RdS F (s.cut size l r m) size ((vs.drop (l*size)).take ((r - l)*size)):=by
 have w:(r - l)*size<=s.len*size - l*size:=by rw [<- Nat.sub_mul];exact W1 _ (by omega)
 refine ⟨by rw [PM,WL,h.len];simp only [Sl.cut];omega,by simp only [Sl.cut];omega,λB=> ?_⟩;simp only [Sl.cut] at B ⊢;obtain ⟨b,o,A,g⟩:=h.cells (by omega);have C:¬m=l:=by omega
 refine ⟨b,o+l*size,by simp [C,A],λi hi=> ?_⟩;simp only [PM,WL] at hi;rw [V7,g (l*size+i) (by omega)];simp [List.getElem_take,List.getElem_drop]
theorem mD {P:Program} {n:Nat} {F:PH} {Q:Unit->PH->Prop} (h:Q () F):aH P (askRoom n) F Q:=by
 unfold askRoom;split
 ·exact h
 ·exact h
theorem bQ {P:Program} {t e size bytes:Nat} {z:Value} {n c:Int} {k k':IntKind} {F:PH} {Q:Value->PH->Prop} (I:P.underlying t=mB (.slice e)) (D:vV P e=mB (size,bytes)) (J:bv P e=mB z) (r:z.cells.size=size)
  (R:0<=n) (O:n<=c) (U:(bytes:Int)*c<=281474976710656) (E:c<=9223372036854775807)
  (h:∀b,F b=nC->Q (Sl.v ⟨mB ⟨b,0,nC⟩,n.toNat,c.toNat⟩) (F.set b (mX (Builtin.zeroCells z.cells c.toNat) e))):
  aH P (Instr.makeSlice t (.int k n) (.int k' c)) F Q:=by
 obtain ⟨i,hi,B⟩:=ft D;have K:IntKind.i64.wrap n=n:=aL (by omega);have M:IntKind.i64.wrap c=c:=aL (by omega);simp only [Instr.makeSlice,aE,bW I,asInt,asIntOf,aM,B,hi,K,M];have A:0<=c:=by omega
 have N:decide (c<0)=nS:=by simpa using A
 have L:decide ((bytes:Int)*c>2 ^ 48)=nS:=by simp;omega
 have G:decide (n<0)=nS:=by simpa using R
 have H:decide (n>c)=nS:=by simp;omega
 simp only [N,L,G,H,YC,VQ,if_false,aE];refine mD ?_;simp only [eZ D];have fin:∀w:Array Value,(Array.range (c.toNat*size)).map (λi=>w[i % w.size]!)=Builtin.zeroCells z.cells c.toNat->
   aH P (do let a <- newRow e ((Array.range (c.toNat*size)).map (λi=>w[i % w.size]!));pure (Value.slice (mB a) n.toNat c.toNat)) F Q:=by
  intro w C;rw [C];simp only [newRow,newObj,aE,aH,aM];exact h
 by_cases g:c.toNat*size=0
 ·simp only [g,if_true];have:=fin #[] (by simp [Builtin.zeroCells,g,r]);simp only [g] at this;exact this
 ·simp only [Υ g,aE,d9 J,aM];exact fin z.cells (by simp [Builtin.zeroCells,r])
theorem iR {P:Program} {F:PH} {s:Sl} {size n:Nat} {vs:List Value} {Q:Array Value->PH->Prop} (h:RdS F s size vs) (C:n<=s.len) (B:Q (vs.take (n*size)).toArray F):aH P (Builtin.firstCells size n s.v) F Q:=by
 obtain ⟨A,len,cap⟩:=s;cases A with
 |none=>
  have r:len=0:=by
   rcases XL len with r|r
   ·exact r
   ·obtain ⟨b,o,w,_⟩:=h.cells r;cases w
  have E:n=0:=by simp only at C;omega
  have:=h.len;simp only [r,V9,X1] at this;subst this;simpa [Sl.v,Builtin.firstCells] using B
 |some a=>
  simp only [Sl.v,Builtin.firstCells];have g:(vs.take (n*size)).toArray.size=n*size:=by have w:=h.len;have H:n*size<=len*size:=W1 _ C;simp only at w;rw [XH,PM,w];omega
  refine gL _ _ _ _ ?_ B;have key:F.row a (vs.take (n*size)).toArray->s9 P (loadCells a (n*size)) F (vs.take (n*size)).toArray:=λD=>by have:=eT (P:=P) D;rw [g] at this;exact this
  refine key ?_;by_cases G:n*size=0
  ·intro i hi;rw [g,G] at hi;omega
  ·have:=h.row (a:=a) rfl 0 (vs.take (n*size)).toArray (by rw [g];simp);simpa [od] using this
theorem fc {P:Program} {F:PH} {s x:Sl} {t e size bytes X:Nat} {z:Value} {olds news:List Value} {Q:Value->PH->Prop} (ht:P.underlying t=mB (.slice e)) (C:vV P e=mB (size,bytes)) (hz:bv P e=mB z) (_:z.cells.size=size)
  (R:RdS F s size olds) (W:RdS F x size news) (I:∀v∈news,ak v) (D:(s.len+x.len)*bytes<=140737488355328) (O:s.len+x.len<=9223372036854775807)
  (V:x.len*size=0->s.len+x.len<=s.cap->Q (Sl.v ⟨s.qa5,s.len+x.len,s.cap⟩) F)
  (h1:0<x.len*size->s.len+x.len<=s.cap->∃b o c e',s.qa5=mB ⟨b,o,nC⟩/\F b=mB (mX c e' (0,0))/\o+s.len*size+x.len*size<=c.size/\
   Q (Sl.v ⟨s.qa5,s.len+x.len,s.cap⟩) (F.set b (mX (wr c (o+s.len*size) news) e')))
  (h2:s.cap<s.len+x.len->∀cap b,s.len+x.len<=cap->F b=nC->Q (Sl.v ⟨mB ⟨b,0,nC⟩,s.len+x.len,cap⟩) (F.set b (mX (olds.toArray++news.toArray++Builtin.zeroCells z.cells (cap - (s.len+x.len))) e))):
  aH P (Builtin.append_ #[t,t] X #[s.v,x.v]) F Q:=by
 have r:=W.len;have G:=R.len;have B:∀A,A news.toArray F->aH P (Builtin.firstCells size x.len x.v) F A:=λA K=>iR W (tI _) (by rw [<- r,wV];exact K);have L:∀A,A olds.toArray F->aH P (Builtin.firstCells size s.len s.v) F A:=λA K=>iR R (tI _) (by rw [<- G,wV];exact K);obtain ⟨J,len,cap⟩:=s;obtain ⟨xb,H,xc⟩:=x;simp only [Builtin.append_,aE,Sl.v,List.getElem?_toArray,X2,V6,bW ht,Builtin.lenOf,aM,eZ C,VQ,if_false,Bool.not_false,if_true] at*;obtain ⟨i,M,w⟩:=ft C;by_cases g:len+H<=cap
 ·rw [Χ g];simp only [aE];refine B _ ?_;by_cases h:H*size=0
  ·have E:news=[]:=VT (by rw [r,h]);cases J with
   |none=>exact V h g
   |some a=>simp only [E,storeCells,aE,aM];exact V h g
  ·obtain ⟨b,o,c,e',g1,g2,g3,Z⟩:=h1 (by omega) g;cases g1;simp only [aE];refine fk news 0 F _ c _ (by simp) (by simpa using g2) (by simp only [aJ];rw [r];omega) I (λN=>h (by rw [<- r,N];rfl)) ?_;simpa using Z
 ·rw [Υ g];simp only [aE,w]
  rw [Υ (by
   rintro ⟨Y,U⟩;have:(IntKind.i64.max:Int)=9223372036854775807:=by decide
   rw [this] at Y
   omega)]
  have hg:=growslice_fits (need:=len+H) (old:=cap) (bytes:=bytes) (by omega) D;simp only [aE,w];rw [Υ (by rw [M];omega)];simp only [aE,choose];unfold aH;rw [Υ (by simp [Question.forced])];intro tt;simp only [aH,w];refine mD ?_;refine L _ ?_;refine B _ ?_;simp only [d9 hz,newRow,newObj,aE,aH,aM];intro b U;exact h2 (by omega) _ b (by simp only [Question.cut];omega) U
open Go.ChangeShapes Go.WideShapes Go.ChangeAt Go.RowKit
def hF (W:World):PH:=λb=>W.heap[b]?
theorem Ep {W:World} {a:Addr} {v:Value} (h:W.cell? a=mB v):(hF W).cell a=mB v:=h
theorem qhn {P:Program} {f:FuncId} {args:Array Value} {W:World} (h:aj P f args (hF W) λv C=>v=.bool nZ/\(hF W).le C):
  Calls P f args W λe B=>e=.returned (.bool nZ)/\Below W.heap.size W B:=by
 refine (h ⟨W.os,W.tape,W.output,λ_=>nC⟩ W ⟨rfl,rfl,rfl,λb o A=>A,λb o A=>(by cases A)⟩).mono ?_;rintro e B ⟨v,C,rfl,r,rfl,w⟩;have key:∀(k:Nat) (o:Obj),W.heap[k]? =mB o->B.heap[k]? =mB o:=λk o g=>r.heap k o (w k o g);refine ⟨rfl,r.os,r.tape,r.output,?_,λk g=> ?_⟩
 ·rcases XL W.heap.size with D|D
  ·omega
  ·have E:=key (W.heap.size - 1) _ (Wh (by omega));have F:=(XZ.1 E).1;omega
 ·rw [Wh g];exact key k _ (Wh g)
section
variable {H:Type} {enc:TypeId×Value->H} {P:Program} {W W':World}
theorem kE (C:laidOutB P=nZ) {sp:Nat->Bool} (D:Below W.heap.size W W'):∀{B:List TypeId} {vs:List Value} {ds:List (DataW H)} {r:List MemPlace},
  B.all (λt=>P.readableRec t && decide (t<P.types.size))=nZ->DataW.TrodAll enc P W 0 (λ_=>nZ) nZ B vs ds r->(∀x∈r,x.block<W.heap.size)->(∀x∈r,sp x.block=nZ)->DataW.TrodAll enc P W' 0 sp nZ B vs ds r
 |[],vs,ds,r,_,h,_,_=>by obtain ⟨rfl,rfl,rfl⟩:=trodAll_nil h;rfl
 |t::B,vs,ds,r,A,h,hlt,hsp=>by
  obtain ⟨v,F,d,E,p,q,rfl,rfl,rfl,J,I⟩:=trodAll_cons h;rw [Xj,Vv,Vv,δ] at A;obtain ⟨⟨G,w⟩,A⟩:=A
  exact ⟨p,q,WideElems.Trod_stays C G w J (λx g=>D.same (hlt x (Zi _ g))) (λx g=>hsp x (Zi _ g)),
   kE C D A I (λx g=>hlt x (List.mem_append_right _ g)) (λx g=>hsp x (List.mem_append_right _ g)),rfl⟩
theorem Gf {f:Func} {s:ChangeSpec} {args:Array Value} {ds E:List (DataW H)} {before:List MemPlace} {D:TypeId} {fresh:Bool}
  (K:laidOutB P=nZ) (G:s.vars=[]) (J:DataW.Whole enc P f.params.toList s.vars nS W args.toList ds E before) (g:f.params.toList.all (λt=>P.readableRec t && decide (t<P.types.size))=nZ)
  (L:f.resultTypes= #[D]) (B:P.underlying D=mB .bool) (F:Below W.heap.size W W')
  (C:s.fn H (ds++E)={results:=[.lit (.bool nZ)],args:=ds}):
  s.post enc P f nS fresh nS nS W args (.bool nZ) W':=by
 have r:=J;obtain ⟨p,q,M,I,rfl,_,_⟩:=J;rw [G] at I;obtain ⟨rfl,rfl⟩:=trodVars_none I;have w:∀x∈p,x.block<W.heap.size:=λx A=>by simpa using r.lt x (Zi _ A)
 refine ⟨ds,[],p++[],[],p,[],r,?_,?_,?_,F.frame _,λh=>by cases h⟩
 ·rw [C,L];exact trodAll_cons_mk (shut_bool B _) trodAll_mk0
 ·rw [C];exact kE K F g M w (λx A=>by simpa using w x A)
 ·rw [C,G];rfl
end
set_option maxRecDepth 10000
def bt (f:Nat->Bool):Nat->Nat
 |0=>0
 |n+1=>2 ^ n*(if f n then 1 else 0)+bt f n
theorem sk (f:Nat->Bool):∀n,bt f n<2 ^ n
 |0=>by simp [bt]
 |n+1=>by have:=sk f n;unfold bt;rw [Nat.pow_succ];split<;>omega
theorem wB (f:Nat->Bool):∀n j,(bt f n).testBit j=(decide (j<n) && f j)
 |0,j=>by simp [bt]
 |n+1,j=>by
  unfold bt;rw [YU _ (sk f n)];split
  ·rename_i h;rw [wB f n j];simp [h,show j<n+1 by omega]
  ·rename_i h;by_cases g:j=n
   ·subst g;cases f j<;>simp
   ·have:j - n≠0:=by omega
    rw [show decide (j<n+1)=nS by simp;omega];split
    ·have:=Zk (n:=0) (m:=j - n);rw [Nat.pow_zero] at this;rw [this];simp;omega
    ·simp
theorem uL {x n:Nat} {f:Nat->Bool} (r:x<2 ^ n) (h:∀j,j<n->x.testBit j=f j):x=bt f n:=
 Nat.eq_of_testBit_eq λj=>by
  rw [wB];by_cases g:j<n
  ·rw [h j g];simp [g]
  ·rw [Nat.testBit_lt_two_pow (Nat.lt_of_lt_of_le r (Wi (by omega) (by omega)))];simp [g]
theorem J0 {n:Nat} {f g:Nat->Bool} (h:∀j,j<n->f j=g j):bt f n=bt g n:=
 uL (sk f n) λj r=>by rw [wB,h j r];simp [r]
def wd (P:Nat->Bool) (k:Nat):Nat:=bt (λj=>P (64*k+j)) 64
theorem oK (P:Nat->Bool) (k:Nat):wd P k<18446744073709551616:=sk _ 64
theorem iv (P:Nat->Bool) (k:Nat) {j:Nat} (g:j<64):(wd P k).testBit j=P (64*k+j):=by unfold wd;rw [wB];simp [g]
theorem wC (k:Nat):wd (λ_=>nS) k=0:=(uL (x:=0) (by decide) λj _=>by simp).symm
theorem qdZ (P Q:Nat->Bool) (k:Nat):wd (λi=>P i || Q i) k=wd P k ||| wd Q k:=
 (uL (x:=wd P k ||| wd Q k) (Nat.or_lt_two_pow (sk _ 64) (sk _ 64)) λj g=>by rw [Nat.testBit_or,iv P k g,iv Q k g]).symm
theorem SL (P Q:Nat->Bool) (k:Nat):wd (λi=>P i && Q i) k=wd P k &&& wd Q k:=
 (uL (x:=wd P k &&& wd Q k) (Nat.and_lt_two_pow _ (sk _ 64)) λj g=>by rw [Nat.testBit_and,iv P k g,iv Q k g]).symm
theorem iw {P:Nat->Bool} {k:Nat}:wd P k=0↔∀j,j<64->P (64*k+j)=nS:=by
 constructor
 ·intro h j g;have:=iv P k g;rw [h] at this;simpa using this.symm
 ·intro h;exact (uL (x:=0) (by decide) λj g=>by rw [h j g];simp).symm
theorem mE {x:Int} (h:0<=x) (g:x<18446744073709551616):IntKind.u64.wrap x=x:=by unfold IntKind.wrap;simp only [IntKind.bits,IntKind.signed];simp only [WN,VQ,if_false];omega
theorem Er {a:Nat} (h:a<18446744073709551616):(BitVec.ofInt (IntKind.u64).bits (a:Int)).toNat=a:=by
 rw [BitVec.toNat_ofInt];show ((a:Int) % ((2 ^ 64:Nat):Int)).toNat=a;have:((2 ^ 64:Nat):Int)=18446744073709551616:=by decide
 rw [this];omega
theorem J1 {a b:Nat} (g:a<18446744073709551616) (h:b<18446744073709551616):IntKind.u64.wrap ((BitVec.ofInt (IntKind.u64).bits (a:Int) ||| BitVec.ofInt (IntKind.u64).bits (b:Int)).toNat)=((a ||| b:Nat):Int):=by rw [BitVec.toNat_or,Er g,Er h];have:a ||| b<2 ^ 64:=Nat.or_lt_two_pow g h;exact mE (by omega) (by omega)
theorem wD {a b:Nat} (h:a<18446744073709551616) (g:b<18446744073709551616):IntKind.u64.wrap ((BitVec.ofInt (IntKind.u64).bits (a:Int) &&& BitVec.ofInt (IntKind.u64).bits (b:Int)).toNat)=((a &&& b:Nat):Int):=by rw [BitVec.toNat_and,Er h,Er g];have:a &&& b<2 ^ 64:=Nat.and_lt_two_pow _ g;exact mE (by omega) (by omega)
def Low (x t:Nat):Prop:=∃m,x=2 ^ (t+1)*m+2 ^ t
theorem Low.of {x t:Nat} (r:x.testBit t=nZ) (g:∀j,j<t->x.testBit j=nS):Low x t:=by
 refine ⟨x / 2 ^ (t+1),Nat.eq_of_testBit_eq λj=> ?_⟩;rw [YU _ (Nat.pow_lt_pow_right (by omega) (by omega))];split
 ·rename_i h;rw [Zk];by_cases w:j=t
  ·subst w;rw [r];simp
  ·rw [g j (by omega)];simp;omega
 ·rw [Nat.testBit_div_two_pow];congr 1;omega
theorem Low.pos {x t:Nat} (h:Low x t):0<x:=by obtain ⟨m,rfl⟩:=h;have:=Nat.two_pow_pos t;omega
theorem Low.clear {x t:Nat} (h:Low x t) (j:Nat):(x &&& (x - 1)).testBit j=(x.testBit j && decide (j≠t)):=by
 obtain ⟨m,rfl⟩:=h;have w:=Nat.two_pow_pos t;have e:2 ^ (t+1)*m+2 ^ t - 1=2 ^ (t+1)*m+(2 ^ t - 1):=by omega
 have r:2 ^ t<2 ^ (t+1):=Nat.pow_lt_pow_right (by omega) (by omega);rw [e,Nat.testBit_and,YU _ r,YU _ (by omega)];split
 ·rw [Zk,Nat.testBit_two_pow_sub_one];by_cases g:t=j
  ·subst g;simp
  ·simp [g]
 ·rename_i h;rw [Bool.and_self];simp;omega
theorem Low.neg {x t:Nat} (h:Low x t) (B:x<2 ^ 64):x &&& (2 ^ 64 - x)=2 ^ t:=by
 have C:t<64:=by
  rcases Nat.lt_or_ge t 64 with g|g
  ·exact g
  ·obtain ⟨m,rfl⟩:=h;have:=Wi (n:=2) (by omega) g;omega
 obtain ⟨m,rfl⟩:=h;have D:=Nat.two_pow_pos t;have w:2 ^ t<2 ^ (t+1):=Nat.pow_lt_pow_right (by omega) (by omega);have r:(2:Nat) ^ 64=2 ^ (t+1)*2 ^ (63 - t):=by rw [<- Nat.pow_add];congr 1;omega
 have A:m<2 ^ (63 - t):=by
  rcases Nat.lt_or_ge m (2 ^ (63 - t)) with g|g
  ·exact g
  ·have:=Nat.mul_le_mul_left (2 ^ (t+1)) g;omega
 have e:2 ^ 64 - (2 ^ (t+1)*m+2 ^ t)=2 ^ (t+1)*(2 ^ (63 - t) - (m+1))+2 ^ t:=by
  have E:2 ^ (t+1)=2 ^ t+2 ^ t:=by rw [Nat.pow_succ];omega
  have:2 ^ (t+1)*(2 ^ (63 - t) - (m+1))=2 ^ (t+1)*2 ^ (63 - t) - 2 ^ (t+1)*(m+1):=Nat.mul_sub _ _ _;rw [this,<- r,Nat.mul_add,xZ];have:2 ^ (t+1)*m+2 ^ (t+1)<=2 ^ 64:=by rw [r];have:=Nat.mul_le_mul_left (2 ^ (t+1)) (show m+1<=2 ^ (63 - t) by omega);rw [Nat.mul_add,xZ] at this;exact this
  omega
 rw [e];refine Nat.eq_of_testBit_eq λj=> ?_;rw [Nat.testBit_and,YU _ w,YU _ w,Zk];split
 ·rw [Bool.and_self]
 ·rename_i h;rw [Nat.testBit_two_pow_sub_succ A];have:decide (t=j)=nS:=by simp;omega
  rw [this];cases m.testBit (j - (t+1))<;>simp
def y9:List Nat:=[0,1,56,2,57,49,28,3,61,58,42,50,38,29,17,4,62,47,59,36,45,43,51,22,53,39,33,30,24,18,12,5,63,55,48,27,60,41,37,16,46,35,44,21,52,32,23,11,54,26,40,15,34,20,31,10,25,14,19,9,13,8,7,6]
theorem qd0:∀t,t<64->(2 ^ t*285870213051353865 % 18446744073709551616) / 288230376151711744<64/\y9[(2 ^ t*285870213051353865 % 18446744073709551616) / 288230376151711744]? =mB t:=by decide
section
variable {P:Program} {F:PH} {E:En} {o:Oper} {x y:Operand} {t t':TypeId}
theorem oL {op:BinOp} {c d:Array Value} (h:P.eqGuardType P.depth t=nS):s9 P (eqGuard op t x y (.agg c) (.agg d)) F ():=by cases op<;>simp [eqGuard,program,am,s9,h]
theorem Nf {c d:Array Value} {r:Bool} (w:o.op=.binOp .eql t x y t') (g:ev E x=.agg c) (B:ev E y=.agg d) (h:P.eqGuardType P.depth t=nS) (A:s9 P (Op.equal t (.agg c) (.agg d)) F r):
  RD P E F o (.bool r):=jI w g B (oL h) A rfl
theorem Ng {c d:Array Value} {r:Bool} (w:o.op=.binOp .neq t x y t') (g:ev E x=.agg c) (B:ev E y=.agg d) (h:P.eqGuardType P.depth t=nS) (A:s9 P (Op.equal t (.agg c) (.agg d)) F r):
  RD P E F o (.bool (!r)):=jJ w g B (oL h) A rfl
end
section
variable {K:Type} [DecidableEq K]
structure oM (P:Program) (kt:TypeId) (enc:K->Value):Prop where
 eq:∀F a b,s9 P (Op.equal kt (enc a) (enc b)) F (decide (a=b))
 chk:∀F e a,s9 P (Instr.checkKey e 10000 kt (enc a)) F ()
 same:∀a,Instr.sameBits 10000 (enc a) (enc a)=nZ
 kind:∃d,P.underlying kt=mB d/\((∀a b,Instr.sameNow d (enc a) (enc b)=mB (decide (a=b)))\/∀a b,Instr.sameNow d (enc a) (enc b)=nC)
structure fO (P:Program) (mt:TypeId) (enc:K->Value) (z:Value):Prop where
 ex:∃kt e,P.underlying mt=mB (.map kt e)/\bv P e=mB z/\oM P kt enc
def lk (k:K):List (K×Value)->Option Value
 |[]=>nC
 |p::r=>if k=p.1 then mB p.2 else lk k r
def We (k:K):List (K×Value)->Nat->Option (Nat×Value)
 |[],_=>nC
 |p::r,i=>if k=p.1 then mB (i,p.2) else We k r (i+1)
def Wt (k:K) (v:Value):List (K×Value)->List (K×Value)
 |[]=>[(k,v)]
 |p::r=>if k=p.1 then (k,v)::r else p::Wt k v r
theorem BX (k k':K) (v:Value):∀(L:List (K×Value)),lk k' (Wt k v L)=if k'=k then mB v else lk k' L
 |[]=>rfl
 |p::r=>by
  unfold Wt;split
  ·rename_i h;simp only [lk];split
   ·rfl
   ·rename_i w;rw [Υ (by rw [<- h];exact w)]
  ·rename_i h;simp only [lk,BX k k' v r];split
   ·rename_i g;rw [Υ (by rintro rfl;exact h g)]
   ·rfl
theorem mF (k:K) (v:Value):∀(L:List (K×Value)) (i:Nat),We k L i=nC->lk k L=nC/\Wt k v L=L++[(k,v)]
 |[],_,_=>⟨rfl,rfl⟩
 |p::r,i,h=>by
  unfold We at h;split at h
  ·cases h
  ·rename_i g;obtain ⟨A,w⟩:=mF k v r _ h;exact ⟨by unfold lk;rw [Υ g,A],by unfold Wt;rw [Υ g,w];rfl⟩
theorem mH (k:K) (v:Value):∀(L:List (K×Value)) (i j:Nat) (w:Value),We k L i=mB (j,w)->∃d,j=i+d/\d<L.length/\L[d]? =mB (k,w)/\lk k L=mB w/\Wt k v L=L.set d (k,v)
 |[],_,_,_,h=>by cases h
 |p::r,i,j,w,h=>by
  unfold We at h;split at h
  ·rename_i g;cases h;refine ⟨0,rfl,by simp,?_,by unfold lk;rw [Χ g],by unfold Wt;rw [Χ g];rfl⟩;subst g;rfl
  ·rename_i A;obtain ⟨d,F,E,D,B,C⟩:=mH k v r _ _ _ h;exact ⟨d+1,by omega,by simp only [wo];omega,by simpa using D,by unfold lk;rw [Υ A,B],by unfold Wt;rw [Υ A,C];rfl⟩
def dW (enc:K->Value) (m:K->Option Value) (o:Obj):Prop:=
 ∃(es:Array MapEntry) (c:Nat) (L:List (K×Value)),o=.map es c/\es.toList.map (λe=>(e.key,e.val))=L.map (λp=>(enc p.1,p.2))/\∀k,m k=lk k L
theorem dW.empty (enc:K->Value):dW enc (λ_=>nC) (.map #[] 0):=⟨#[],0,[],rfl,rfl,λ_=>rfl⟩
theorem dW.not_cells {enc:K->Value} {m:K->Option Value} {o:Obj} (h:dW enc m o):∀c e fr,o≠mX c e fr:=by obtain ⟨g,c,L,rfl,_⟩:=h;intro c e fr h;cases h
variable {P:Program} {F:PH} {kt mt:TypeId} {enc:K->Value} {z:Value}
theorem jh (r:oM P kt enc) (k:K):∀(g:List MapEntry) (L:List (K×Value)) (i:Nat),g.map (λe=>(e.key,e.val))=L.map (λp=>(enc p.1,p.2))->
  s9 P (Instr.findAsking kt (enc k) g i) F (We k L i)
 |[],[],_,_=>rfl
 |[],_::_,_,h=>by cases h
 |_::_,[],_,h=>by cases h
 |e::g,p::L,i,h=>by
  simp only [xV,List.cons.injEq,YD] at h;obtain ⟨⟨C,A⟩,B⟩:=h;simp only [Instr.findAsking,am];refine ⟨_,by rw [C];exact r.eq F k p.1,?_⟩;unfold We;by_cases w:k=p.1
  ·simp [w,A]
  ·simpa [w] using jh r k g L (i+1) B
theorem so {d:TypeDesc} (r:∀a b,Instr.sameNow d (enc a) (enc b)=mB (decide (a=b))) (k:K):∀(g:List MapEntry) (L:List (K×Value)) (i:Nat),g.map (λe=>(e.key,e.val))=L.map (λp=>(enc p.1,p.2))->
  Instr.findNow d (enc k) g i=mB (We k L i)
 |[],[],_,_=>rfl
 |[],_::_,_,h=>by cases h
 |_::_,[],_,h=>by cases h
 |e::g,p::L,i,h=>by
  simp only [xV,List.cons.injEq,YD] at h;obtain ⟨⟨C,A⟩,B⟩:=h;simp only [Instr.findNow,C,r];unfold We;by_cases w:k=p.1
  ·simp [w,A]
  ·simpa [w] using so r k g L (i+1) B
theorem gl (w:oM P kt enc) (k:K) (g:List MapEntry) (L:List (K×Value)) (h:g.map (λe=>(e.key,e.val))=L.map (λp=>(enc p.1,p.2))):
  s9 P (Instr.findKey kt (enc k) g) F (We k L 0):=by
 obtain ⟨d,hd,r⟩:=w.kind;unfold Instr.findKey;simp only [am];refine ⟨d,(aA hd _).2 rfl,?_⟩;rcases r with r|r
 ·rw [so r k g L 0 h];rfl
 ·cases g with
  |nil=>
   cases L with
   |nil=>rfl
   |cons _ _=>cases h
  |cons e g=>
   cases L with
   |nil=>cases h
   |cons p L=>
    have A:e.key=enc p.1:=by simp only [xV,List.cons.injEq,YD] at h;exact h.1.1
    have:Instr.findNow d (enc k) (e::g) 0=nC:=by simp only [Instr.findNow,A,r]
    rw [this];exact jh w k _ _ 0 h
theorem bL (N:fO P mt enc z) {r:Nat} {o:Obj} {m:K->Option Value} (G:F r=mB o) (B:dW enc m o) (k:K) (ok:Bool):
  s9 P (Instr.lookup mt (.map (mB r)) (enc k) ok) F (if ok then .tuple #[(m k).getD z,.bool (m k).isSome] else (m k).getD z):=by
 obtain ⟨kt,e,M,H,g⟩:=N.ex;have h:=B.not_cells;obtain ⟨E,c,L,rfl,C,A⟩:=B;have I:=λw=>mH k w L 0;have J:=mF k z L 0;unfold Instr.lookup;simp only [am];refine ⟨_,(aA M _).2 rfl,?_⟩;simp only [am];refine ⟨_,⟨_,G,h,rfl⟩,?_⟩;simp only [am];refine ⟨E,rfl,(),g.chk F _ k,?_⟩;cases hfd:We k L 0 with
 |none=>refine ⟨_,gl g k _ _ C,?_⟩;rw [hfd];simp only [am];refine ⟨z,(gA H _).2 rfl,_,rfl,?_⟩;rw [A,(J hfd).1];rfl
 |some q=>obtain ⟨j,v⟩:=q;obtain ⟨d,_,_,_,D,_⟩:=I z j v hfd;refine ⟨_,gl g k _ _ C,?_⟩;rw [hfd];simp only [am];refine ⟨_,rfl,?_⟩;rw [A,D];rfl
theorem bh (O:fO P mt enc z) {r:Nat} {o:Obj} {m:K->Option Value} (J:F r=mB o) (M:dW enc m o) (k:K) (v:Value) {Q:Unit->PH->Prop}
  (h:∀o',dW enc (λk'=>if k'=k then mB v else m k') o'->Q () (F.set r o')):aH P (Instr.mapUpdate mt (.map (mB r)) (enc k) v) F Q:=by
 obtain ⟨kt,e,V,h2,I⟩:=O.ex;have A:=M.not_cells;obtain ⟨B,c,L,rfl,D,R⟩:=M;have W:=mH k v L 0;have X:=mF k v L 0;unfold Instr.mapUpdate;simp only [aE,bW V];refine ⟨_,J,A,?_⟩;rw [show (Sem.pure (Obj.map B c):Sem Obj)=pure (Obj.map B c) from rfl];simp only [aM,aE];refine gL _ _ _ _ (I.chk F _ k) ?_;refine gL _ _ _ _ (gl I k _ _ D) ?_;have H:∀k',(if k'=k then mB v else m k')=lk k' (Wt k v L):=λk'=>by rw [BX,R]
 cases hfd:We k L 0 with
 |none=>refine ⟨_,J,A,h _ ⟨_,_,Wt k v L,rfl,?_,H⟩⟩;rw [(X hfd).2];simp [D]
 |some q=>
  obtain ⟨j,w⟩:=q;obtain ⟨d,Y,hd,N,Z,U⟩:=W j w hfd;obtain rfl:j=d:=by omega
  have C:B.size=L.length:=by simpa using congrArg List.length D
  have G:(B[j]?.map (·.key)).getD (enc k)=enc k:=by
   have:=congrArg (λl=>l[j]?) D;simp only [yr,N,VF] at this;have g:j<B.size:=by omega
   simp [g] at this ⊢;exact this.1
  simp only [aE,G,Instr.keyThatStays,I.same,if_true,aM];refine ⟨_,J,A,h _ ⟨_,_,Wt k v L,rfl,?_,H⟩⟩;rw [U];apply Wp;intro i;have E:=congrArg (λl=>l[i]?) D;simp only [yr] at E;simp only [Array.toList_modify,yr,YS,Yt];by_cases hi:j=i
  ·subst hi;have g:j<B.toList.length:=by simpa [C] using hd
   rw [N5 g];simp [hd]
  ·simp only [hi,if_false];simpa using E
end
theorem Wb {F:PH} {b o:Nat} {v:Value} {c:Array Value} {e:TypeId} {K:PH->Prop} (h:F b=mB (mX c e (0,0))) (g:o<c.size) (k:K (F.set b (mX (c.setIfInBounds o v) e))):
  ∃c e,F (pd b o nC).block=mB (mX c e (0,0))/\(pd b o nC).spot=nC/\(pd b o nC).off<c.size/\
   wn (F.set (pd b o nC).block (mX (c.setIfInBounds (pd b o nC).off v) e)) K:=⟨c,e,h,rfl,g,k⟩
theorem sq {F:PH} {A:Addr} {b o:Nat} {v:Value} {c:Array Value} {e:TypeId} {K:PH->Prop} (g:A=⟨b,o,nC⟩) (h:F b=mB (mX c e (0,0))) (r:o<c.size) (k:K (F.set b (mX (c.setIfInBounds o v) e))):
  ∃c e,F A.block=mB (mX c e (0,0))/\A.spot=nC/\A.off<c.size/\wn (F.set A.block (mX (c.setIfInBounds A.off v) e)) K:=by
 subst g;exact Wb h r k
theorem J2 {c d:Array Value} (h:c.size=d.size):wr c 0 d.toList=d:=by
 apply Array.ext
 ·rw [dG,h]
 ·intro i r g;have:=wy d.toList c 0 i (by simp [h]);rw [Χ (by simp;omega)] at this;simp only [VV] at this;rw [Wh r] at this;simp at this;rw [Wh g] at this;exact yV this
theorem Vd {F:PH} {b n:Nat} {v c:Array Value} {e:TypeId} {K:PH->Prop} (h:F b=mB (mX c e (0,0))) (w:v.size=n) (r:c.size=n) (g:∀x∈v.toList,ak x) (k:K (F.set b (mX v e))):
  v.size=n/\(∀x∈v.toList,ak x)/\∃c e,F (pd b 0 nC).block=mB (mX c e (0,0))/\(pd b 0 nC).spot=nC/\(pd b 0 nC).off+n<=c.size/\
   wn (F.set (pd b 0 nC).block (mX (wr c (pd b 0 nC).off v.toList) e)) K:=
 ⟨w,g,c,e,h,rfl,by simp [r],by
  unfold wn;rw [show (pd b 0 nC).off=0 from rfl,J2 (by rw [r,w])]
  exact k⟩
theorem ZS (v:Value) (h:v.cells= #[v]) (n:Nat):Builtin.zeroCells v.cells n=(List.replicate n v).toArray:=by
 rw [qh _ (by rw [h];rfl),h];congr 1;induction n with
 |zero=>rfl
 |succ n ih=>simp [List.replicate_succ,ih]
theorem WW {n:Nat} (h:n<=9223372036854775807):IntKind.i64.wrap (n:Int)=n:=aL (by omega)
theorem ff {n:Nat} (h:n<9223372036854775807):IntKind.i64.wrap ((n:Int)+1)=((n+1:Nat):Int):=by rw [aL (by omega)];omega
theorem jL (vs:List Value):∀(c:List Value) (o:Nat),o+vs.length<=c.length->wr c.toArray o vs=(c.take o++vs++c.drop (o+vs.length)).toArray:=by
 intro c o h;apply Array.ext
 ·rw [dG];simp;omega
 ·intro i g r;have:=wy vs c.toArray o i (by simpa using h);rw [Wh g] at this;rw [dG] at g;simp only [XH] at g;have w:(c.take o++vs++c.drop (o+vs.length)).toArray[i]=(c.take o++vs++c.drop (o+vs.length))[i]'(by simpa using r):=by simp
  rw [w];apply yV;rw [<- N5,this];by_cases hi:i<o
  ·rw [Υ (by omega),yb,z8 (by simp;omega)];simp [hi]
  ·by_cases A:i<o+vs.length
   ·rw [Χ ⟨by omega,A⟩,z8 (by simp;omega),Vm (by simp;omega)];simp;congr 1;omega
   ·rw [Υ (by omega),Vm (by simp;omega)];simp;congr 1;omega
def bO (F:PH) (e size:Nat) (s:Sl) (vs:List Value):Prop:=
 (s=Sl.nil/\vs=[])\/∃b cur,s.qa5=mB ⟨b,0,nC⟩/\F b=mB (mX cur e (0,0))/\cur.size=s.cap*size/\s.len<=s.cap/\vs.length=s.len*size/\cur.toList.take (s.len*size)=vs
theorem bO.rd {F:PH} {e size:Nat} {s:Sl} {vs:List Value} (h:bO F e size s vs):RdS F s size vs:=by
 rcases h with ⟨rfl,rfl⟩|⟨b,A,D,C,E,g,r,B⟩
 ·exact RdS.nil F size
 ·obtain ⟨w,len,cap⟩:=s;cases D;exact RdS.new C B r g
theorem bO.keep {F G:PH} {e size:Nat} {s:Sl} {vs:List Value} (h:bO F e size s vs) (w:∀a,s.qa5=mB a->G a.block=F a.block):bO G e size s vs:=by
 rcases h with h|⟨b,g,r,A,B⟩
 ·exact .inl h
 ·exact .inr ⟨b,g,r,(w _ r).trans A,B⟩
theorem sC {F:PH} {s x:Sl} {t e size bytes W:Nat} {z:Value} {P:Program} {olds news:List Value} {Q:Value->PH->Prop} (Z:P.underlying t=mB (.slice e)) (M:vV P e=mB (size,bytes)) (hz:bv P e=mB z) (C:z.cells.size=size) (K:0<size)
  (J:bO F e size s olds) (A:RdS F x size news) (V:0<x.len) (N:∀v∈news,ak v) (D:(s.len+x.len)*bytes<=140737488355328) (B:s.len+x.len<=9223372036854775807)
  (h:∀H L b o,L=F.set b o->bO L e size H (olds++news)->H.len=s.len+x.len->(∀a,H.qa5=mB a->a.block=b)->((∃a,s.qa5=mB a/\a.block=b)\/F b=nC)->Q H.v L):
  aH P (Builtin.append_ #[t,t] W #[s.v,x.v]) F Q:=by
 have U:0<x.len*size:=Nat.mul_pos V K;have w:=J.rd.len;refine fc Z M hz C J.rd A N D B (λh0=>by omega) ?_ ?_
 ·intro _ g;rcases J with ⟨rfl,rfl⟩|⟨b,r,G,h2,O,h4,I,Y⟩
  ·simp [Sl.nil] at g;omega
  ·have X:s.len*size+x.len*size<=r.size:=by rw [O,<- Wa];exact W1 _ g
   refine ⟨b,0,r,e,G,h2,by omega,?_⟩;refine h ⟨_,_,_⟩ _ b _ rfl (.inr ⟨b,_,G,aq _ _ _,by rw [dG,O],g,by simp [I,A.len,Wa],?_⟩) rfl (λa E=>by rw [G] at E;cases E;rfl) (.inl ⟨_,G,rfl⟩);simp only [yp];have R:=jL news r.toList (s.len*size) (by simp [A.len];omega);rw [show r.toList.toArray=r by simp] at R;rw [R];simp only;rw [Y,Wa];rw [WJ (by simp [I,A.len]),yY (by simp [I,A.len])]
 ·intro hgt cap b hc hb;refine h ⟨_,_,_⟩ _ b _ rfl (.inr ⟨b,_,rfl,aq _ _ _,?_,hc,by simp [w,A.len,Wa],?_⟩) rfl (λa E=>by cases E;rfl) (.inr hb)
  ·simp [Builtin.zeroCells,C,w,A.len];rw [<- Wa,<- Wa];congr 1;omega
  ·simp only [YV,Zl];rw [WJ (by simp [w,A.len,Wa]),yY (by simp [w,A.len,Wa])]
theorem oN {F:PH} {s x:Sl} {t e size bytes H:Nat} {z:Value} {P:Program} {olds news:List Value} {Q:Value->PH->Prop} (I:P.underlying t=mB (.slice e)) (B:vV P e=mB (size,bytes)) (J:bv P e=mB z) (C:z.cells.size=size)
  (E:bO F e size s olds) (G:RdS F x size news) (g:x.len=0) (w:s.len*bytes<=140737488355328) (r:s.len<=9223372036854775807)
  (h:Q s.v F):aH P (Builtin.append_ #[t,t] H #[s.v,x.v]) F Q:=by
 have A:news=[]:=VT (by rw [G.len,g,V9]);subst A;refine fc I B J C E.rd G (by simp) (by rw [g];exact w) (by rw [g];exact r) (λ_ _=> ?_) (λD=> ?_) (λD=> ?_)
 ·rw [g];exact h
 ·rw [g] at D;simp at D
 ·have:=E.rd.cap;omega
theorem iz {F0 F:PH} {s x:Sl} {t e size bytes ty:Nat} {z:Value} {P:Program} {olds news:List Value} {Q:Value->PH->Prop} (Y:P.underlying t=mB (.slice e)) (J:vV P e=mB (size,bytes)) (Z:bv P e=mB z) (H:z.cells.size=size) (O:0<size)
  (B:F0.le F) (N:bO F e size s olds) (A:∀a,s.qa5=mB a->F0 a.block=nC) (M:RdS F x size news) (U:∀v∈news,ak v) (r:(s.len+x.len)*bytes<=140737488355328) (G:s.len+x.len<=9223372036854775807)
  (h:∀E I,F0.le I->bO I e size E (olds++news)->E.len=s.len+x.len->(∀a,E.qa5=mB a->F0 a.block=nC)->dh (λb=>∃a,s.qa5=mB a/\a.block=b) F I->(∀a,E.qa5=mB a->(∃X,s.qa5=mB X/\X.block=a.block)\/F a.block=nC)->Q E.v I):
  aH P (Builtin.append_ #[t,t] ty #[s.v,x.v]) F Q:=by
 by_cases W:x.len=0
 ·have L:news=[]:=VT (by rw [M.len,W,V9]);refine oN Y J Z H N M W (by rw [W] at r;exact r) (by omega) ?_;refine h s F B (by rw [L,yD];exact N) (by omega) A (dh.refl _ _) (λa C=> .inl ⟨a,C,rfl⟩)
 ·refine sC Y J Z H O N M (by omega) U r G ?_;rintro E I b ob rfl R V g w;have K:F0 b=nC:=by
   rcases w with ⟨a,C,rfl⟩|w
   ·exact A a C
   ·exact aU B w
  refine h E _ (λy o D=> ?_) R V (λa C=>by rw [g a C];exact K) (λy o D M=> ?_) (λa C=> ?_)
  ·rw [aw _ _ (λe=>by rw [e,K] at D;cases D)];exact B _ _ D
  ·rw [aw]
   ·exact D
   ·rintro rfl;rcases w with w|w
    ·exact M w
    ·rw [w] at D;cases D
  ·rw [g a C];exact w
theorem ai {F:PH} {b e:Nat} {c:Array Value} {fr:Nat×Nat} (h:F b=mB (mX c e fr)):F.row (pd b 0 nC) c:=by intro i hi;rw [aJ,av h];simp
theorem aC {F0 F:PH} {b:Nat} {o:Obj} (h:F0.le F) (r:F0 b=nC):F0.le (F.set b o):=λy w g=>by rw [aw _ _ (λe=>by rw [e,r] at g;cases g)];exact h _ _ g
theorem aj.upon {P:Program} {f:FuncId} {args:Array Value} {F F2:PH} {R:Value->PH->Prop} (h:aj P f args F R) (w:F.le F2):
  aj P f args F2 λv r=>∃G,R v G/\G.le r/\∀b o,F b=nC->F2 b=mB o->r b=mB o/\G b=nC:=by
 have e:F2=F.and (λb=>if (F b).isNone then F2 b else nC):=by
  funext b;cases hf:F b with
  |some o=>rw [PH.and_left hf];exact w b o hf
  |none=>rw [PH.and_right hf];simp [hf]
 have g:=h.beside (H:=λb=>if (F b).isNone then F2 b else nC) (λb o g=>by
  cases hf:F b with
  |some E=>simp [hf] at g
  |none=>rfl)
 rw [<- e] at g;refine g.mono ?_;rintro v r ⟨G,D,rfl,hd⟩;refine ⟨G,D,λb o g=>PH.and_left g,λb o g C=> ?_⟩;have A:(λb=>if (F b).isNone then F2 b else nC) b=mB o:=by simp [g,C]
 have B:=hd b o A;exact ⟨(PH.and_right B).trans A,B⟩
inductive Tr where
 |qa6 (b:Bool)
 |qa7 (v:Nat) (l h:Tr)
deriving DecidableEq
abbrev Cf:=Nat->Bool
def Cf.set (c:Cf) (v:Nat) (b:Bool):Cf:=λi=>if i=v then b else c i
namespace Tr
def top:Tr->Nat
 |qa6 _=>64
 |qa7 v _ _=>v
def ev:Tr->Cf->Bool
 |qa6 b,_=>b
 |qa7 v l h,c=>if c v=nZ then h.ev c else l.ev c
def ok:Tr->Prop
 |qa6 _=>True
 |qa7 v l h=>v<64/\v<l.top/\v<h.top/\l≠h/\l.ok/\h.ok
def sz:Tr->Nat
 |qa6 _=>1
 |qa7 _ l h=>l.sz+h.sz+1
def mk (v:Nat) (l h:Tr):Tr:=if l=h then l else qa7 v l h
def lo (v:Nat):Tr->Tr
 |qa6 b=>qa6 b
 |qa7 w l h=>if w=v then l else qa7 w l h
def hi (v:Nat):Tr->Tr
 |qa6 b=>qa6 b
 |qa7 w l h=>if w=v then h else qa7 w l h
def isL:Tr->Bool
 |qa6 _=>nZ
 |qa7 _ _ _=>nS
theorem sD {t:Tr} (h:t.ok) (g:t.isL=nS):t.top<64:=by
 cases t with
 |qa6 b=>cases g
 |qa7 v l r=>exact h.1
theorem kZ:∀(t:Tr),0<t.sz
 |qa6 _=>Nat.one_pos
 |qa7 _ _ _=>Nat.succ_pos _
theorem sE:∀(t:Tr),t.ok->∀(c d:Cf),(∀i,t.top<=i->c i=d i)->t.ev c=t.ev d
 |qa6 _,_,_,_,_=>rfl
 |qa7 v l h,⟨_,h1,h2,_,h4,h5⟩,c,d,hc=>by simp only [ev];rw [hc v (tI _),sE l h4 c d (λi hi=>hc i (by simp only [top];omega)),sE h h5 c d (λi hi=>hc i (by simp only [top];omega))]
theorem lh {t:Tr} (h:t.ok) {v:Nat} (g:v<t.top) (c:Cf) (b:Bool):t.ev (c.set v b)=t.ev c:=
 sE t h _ _ λi hi=>by unfold Cf.set;rw [Υ (by omega)]
theorem qd1:∀(n:Nat) (a b:Tr),a.sz+b.sz<=n->a.ok->b.ok->(∀c,a.ev c=b.ev c)->a=b:=by
 intro n;induction n with
 |zero=>intro a b B;have:=kZ a;omega
 |succ n ih=>
  have key:∀(v:Nat) (l h b:Tr),(qa7 v l h).sz+b.sz<=n+1->(qa7 v l h).ok->b.ok->v<b.top->(∀c,(qa7 v l h).ev c=b.ev c)->False:=by
   rintro v l h b B ⟨X,A,G,R,J,I⟩ r V g;have Y:=kZ b;simp only [sz] at B;refine R (ih l h (by omega) J I λc=> ?_);have D:=g (c.set v nS);have E:=g (c.set v nZ);rw [lh r V] at D E;have O:(qa7 v l h).ev (c.set v nS)=l.ev c:=by simp only [ev];rw [Υ (by simp [Cf.set]),lh J A]
   have f2:(qa7 v l h).ev (c.set v nZ)=h.ev c:=by simp only [ev];rw [Χ (by simp [Cf.set]),lh I G]
   rw [<- O,<- f2,D,E]
  intro a b B C r g;cases a with
  |qa6 x=>
   cases b with
   |qa6 y=>exact congrArg qa6 (g (λ_=>nS))
   |qa7 v l h=>exact (key v l h (qa6 x) (by omega) r trivial r.1 (λc=>(g c).symm)).elim
  |qa7 v l h=>
   by_cases A:v<b.top
   ·exact (key v l h b B C r A g).elim
   cases b with
   |qa6 y=>exact (A C.1).elim
   |qa7 w H F=>
    simp only [top] at A;by_cases G:w<v
    ·exact (key w H F (qa7 v l h) (by omega) r C G (λc=>(g c).symm)).elim
    obtain rfl:v=w:=by omega
    obtain ⟨X,P,Q,a3,M,K⟩:=C;obtain ⟨_,U,W,Z,N,L⟩:=r;simp only [sz] at B;have D:l=H:=ih l H (by omega) M N λc=>by have:=g (c.set v nS);simp only [ev] at this;rw [Υ (by simp [Cf.set]),Υ (by simp [Cf.set]),lh M P,lh N U] at this;exact this
    have E:h=F:=ih h F (by omega) K L λc=>by have:=g (c.set v nZ);simp only [ev] at this;rw [Χ (by simp [Cf.set]),Χ (by simp [Cf.set]),lh K Q,lh L W] at this;exact this
    rw [D,E]
theorem eq_of_ev {a b:Tr} (h:a.ok) (r:b.ok) (g:∀c,a.ev c=b.ev c):a=b:=qd1 _ a b (tI _) h r g
theorem Es {v:Nat} {l h:Tr} (A:v<64) (B:v<l.top) (w:v<h.top) (g:l.ok) (r:h.ok):(mk v l h).ok:=by
 unfold mk;split
 ·exact g
 ·rename_i C;exact ⟨A,B,w,C,g,r⟩
theorem SM {v:Nat} {l h:Tr} (g:v<l.top):v<=(mk v l h).top:=by
 unfold mk;split
 ·omega
 ·exact tI _
theorem PN (v:Nat) (l h:Tr) (c:Cf):(mk v l h).ev c=if c v=nZ then h.ev c else l.ev c:=by
 unfold mk;split
 ·rename_i e;subst e;simp
 ·rfl
theorem cq {t:Tr} (h:t.ok) {v:Nat} (E:v<=t.top):(lo v t).ok/\(v<64->v<(lo v t).top)/\(lo v t).sz<=t.sz/\(t.top=v->t.isL=nS->(lo v t).sz<t.sz)/\
  ∀c,c v=nS->(lo v t).ev c=t.ev c:=by
 cases t with
 |qa6 b=>exact ⟨trivial,λh=>h,tI _,λ_ h=>(by cases h),λ_ _=>rfl⟩
 |qa7 w l r=>
  obtain ⟨F,A,D,G,g,B⟩:=h;simp only [lo];split
  ·rename_i e;subst e;refine ⟨g,λ_=>A,by simp only [sz];omega,λ_ _=>by simp only [sz];omega,λc C=> ?_⟩;simp [ev,C]
  ·rename_i e;refine ⟨⟨F,A,D,G,g,B⟩,λ_=> ?_,tI _,λH=> ?_,λ_ _=>rfl⟩
   ·simp only [top] at E ⊢;omega
   ·simp only [top] at H;omega
theorem cu {t:Tr} (h:t.ok) {v:Nat} (E:v<=t.top):(hi v t).ok/\(v<64->v<(hi v t).top)/\(hi v t).sz<=t.sz/\(t.top=v->t.isL=nS->(hi v t).sz<t.sz)/\
  ∀c,c v=nZ->(hi v t).ev c=t.ev c:=by
 cases t with
 |qa6 b=>exact ⟨trivial,λh=>h,tI _,λ_ h=>(by cases h),λ_ _=>rfl⟩
 |qa7 w l r=>
  obtain ⟨F,C,A,G,B,g⟩:=h;simp only [hi];split
  ·rename_i e;subst e;refine ⟨g,λ_=>A,by simp only [sz];omega,λ_ _=>by simp only [sz];omega,λc D=> ?_⟩;simp [ev,D]
  ·rename_i e;refine ⟨⟨F,C,A,G,B,g⟩,λ_=> ?_,tI _,λH=> ?_,λ_ _=>rfl⟩
   ·simp only [top] at E ⊢;omega
   ·simp only [top] at H;omega
abbrev Wd:=Bool->Bool->Bool->Bool
def aY (a b d:Tr):Nat:=min (min a.top b.top) d.top
theorem qd2 (o:Wd):∀(n:Nat) (a b d:Tr),a.sz+b.sz+d.sz<=n->a.ok->b.ok->d.ok->
  ∃t:Tr,t.ok/\aY a b d<=t.top/\∀c,t.ev c=o (a.ev c) (b.ev c) (d.ev c):=by
 intro n;induction n with
 |zero=>intro a b d hn;have:=kZ a;omega
 |succ n ih=>
  intro a b d hn F X hd;by_cases h:aY a b d<64
  ·have E:aY a b d<=a.top:=by unfold aY;omega
   have D:aY a b d<=b.top:=by unfold aY;omega
   have C:aY a b d<=d.top:=by unfold aY;omega
   have g:aY a b d=a.top\/aY a b d=b.top\/aY a b d=d.top:=by unfold aY;omega
   revert g;revert E D C h;generalize aY a b d=v;intro h E D C g;have A:∀{t:Tr},v=t.top->t.isL=nS:=λ{t} e=>by
    cases t with
    |qa6 b=>simp only [top] at e;omega
    |qa7 _ _ _=>rfl
   obtain ⟨b0,J,b3,Z,U⟩:=cq F E;obtain ⟨a0,N,b1,a7,a2⟩:=cq X D;obtain ⟨R,P,b2,a1,M⟩:=cq hd C;obtain ⟨O,H,b4,a6,a8⟩:=cu F E;obtain ⟨a5,I,b6,Q,V⟩:=cu X D;obtain ⟨a9,Y,b5,K,W⟩:=cu hd C;have G:(lo v a).sz+(lo v b).sz+(lo v d).sz<=n:=by
    rcases g with e|e|e
    ·have:=Z e.symm (A e);omega
    ·have:=a7 e.symm (A e);omega
    ·have:=a1 e.symm (A e);omega
   have a4:(hi v a).sz+(hi v b).sz+(hi v d).sz<=n:=by
    rcases g with e|e|e
    ·have:=a6 e.symm (A e);omega
    ·have:=Q e.symm (A e);omega
    ·have:=K e.symm (A e);omega
   obtain ⟨tl,l1,l2,l3⟩:=ih _ _ _ G b0 a0 R;obtain ⟨th,h1,h2,h3⟩:=ih _ _ _ a4 O a5 a9;have B:v<tl.top:=by have:=J h;have:=N h;have:=P h;unfold aY at l2;omega
   have a3:v<th.top:=by have:=H h;have:=I h;have:=Y h;unfold aY at h2;omega
   refine ⟨mk v tl th,Es h B a3 l1 h1,SM B,λc=> ?_⟩;rw [PN];split
   ·rename_i r;rw [h3,a8 c r,V c r,W c r]
   ·rename_i r;have r:c v=nS:=by simpa using r
    rw [l3,U c r,a2 c r,M c r]
  ·have w:∀{t:Tr},t.ok->64<=t.top->∃b,t=qa6 b:=λ{t} ht L=>by
    cases t with
    |qa6 b=>exact ⟨b,rfl⟩
    |qa7 _ _ _=>have:=ht.1;simp only [top] at L;omega
   unfold aY at h;obtain ⟨x,rfl⟩:=w F (by omega);obtain ⟨y,rfl⟩:=w X (by omega);obtain ⟨z,rfl⟩:=w hd (by omega);exact ⟨qa6 (o x y z),trivial,by simp [aY,top],λc=>rfl⟩
noncomputable def ZJ (f:Cf->Bool):Tr:=open Classical in if h:∃t:Tr,t.ok/\∀c,t.ev c=f c then h.choose else qa6 nS
theorem wE {f:Cf->Bool} {t:Tr} (h:t.ok) (r:∀c,t.ev c=f c):ZJ f=t:=by have g:∃t:Tr,t.ok/\∀c,t.ev c=f c:=⟨t,h,r⟩;unfold ZJ;rw [dif_pos g];exact eq_of_ev g.choose_spec.1 h λc=>(g.choose_spec.2 c).trans (r c).symm
noncomputable def ap (o:Wd) (a b d:Tr):Tr:=ZJ λc=>o (a.ev c) (b.ev c) (d.ev c)
section
variable {o:Wd} {a b d:Tr} (ha:a.ok) (hb:b.ok) (hd:d.ok)
include ha hb hd
theorem fg:(ap o a b d).ok/\aY a b d<=(ap o a b d).top/\∀c,(ap o a b d).ev c=o (a.ev c) (b.ev c) (d.ev c):=by obtain ⟨t,g,r,h⟩:=qd2 o _ a b d (tI _) ha hb hd;have:ap o a b d=t:=wE g h;rw [this];exact ⟨g,r,h⟩
theorem J3:(ap o a b d).ok:=(fg ha hb hd).1
theorem wF (g:aY a b d<64):ap o a b d=mk (aY a b d) (ap o (lo (aY a b d) a) (lo (aY a b d) b) (lo (aY a b d) d)) (ap o (hi (aY a b d) a) (hi (aY a b d) b) (hi (aY a b d) d)):=by
 have A:aY a b d<=a.top:=by unfold aY;omega
 have w:aY a b d<=b.top:=by unfold aY;omega
 have r:aY a b d<=d.top:=by unfold aY;omega
 revert A w r g;generalize aY a b d=v;intro g A w r;obtain ⟨W,D,a2,a5,J⟩:=cq ha A;obtain ⟨O,F,Y,a9,P⟩:=cq hb w;obtain ⟨I,H,a1,a6,E⟩:=cq hd r;obtain ⟨G,C,a3,a8,V⟩:=cu ha A;obtain ⟨U,B,a7,b0,K⟩:=cu hb w;obtain ⟨L,N,a4,a0,M⟩:=cu hd r;obtain ⟨l1,X,l3⟩:=fg (o:=o) W O I;obtain ⟨h1,h2,Z⟩:=fg (o:=o) G U L;have R:v<(ap o (lo v a) (lo v b) (lo v d)).top:=by have:=D g;have:=F g;have:=H g;unfold aY at X;omega
 have Q:v<(ap o (hi v a) (hi v b) (hi v d)).top:=by have:=C g;have:=B g;have:=N g;unfold aY at h2;omega
 refine wE (Es g R Q l1 h1) λc=> ?_;rw [PN];split
 ·rename_i h;rw [Z,V c h,K c h,M c h]
 ·rename_i h;have h:c v=nS:=by simpa using h
  rw [l3,J c h,P c h,E c h]
end
theorem mI (o:Wd) (x y z:Bool):ap o (qa6 x) (qa6 y) (qa6 z)=qa6 (o x y z):=wE trivial λ_=>rfl
theorem gm {t:Tr} (h:t.ok) (g:64<=t.top):∃b,t=qa6 b:=by
 cases t with
 |qa6 b=>exact ⟨b,rfl⟩
 |qa7 _ _ _=>have:=h.1;simp only [top] at g;omega
end Tr
open Tr
structure Br where
 v:Int
 l:Int
 h:Int
deriving DecidableEq
def inn (S:List Tr) (t:Tr):Prop:=t.isL=nZ\/t∈S
def num (S:List Tr):Tr->Nat
 |qa6 b=>if b then 1 else 0
 |qa7 v l h=>S.idxOf (qa7 v l h)+2
def br (S:List Tr):Tr->Br
 |qa6 _=>⟨0,0,0⟩
 |qa7 v l h=>⟨(v:Int),(num S l:Int),(num S h:Int)⟩
def brs (S:List Tr):List Br:=S.map (br S)
inductive Cl:List Tr->Prop
 |nil:Cl []
 |snoc {S:List Tr} {v:Nat} {l h:Tr}:Cl S->inn S l->inn S h->(qa7 v l h).ok->qa7 v l h ∉ S->Cl (S++[qa7 v l h])
theorem bX {S X:List Tr} {t:Tr} (h:inn S t):inn (S++X) t:=h.imp id λh=>Zi X h
theorem fQ (S:List Tr) (b:Bool):inn S (qa6 b):=.inl rfl
theorem cy {S:List Tr} {t:Tr} (h:inn S t) (g:t.isL=nS):t∈S:=h.resolve_left (by rw [g];exact YW)
theorem bM {S X:List Tr} {t:Tr} (h:inn S t):num (S++X) t=num S t:=by
 cases t with
 |qa6 b=>rfl
 |qa7 v l r=>have g:=cy h rfl;simp only [num,List.idxOf_append,g,if_true]
namespace Cl
theorem mem {S:List Tr} (h:Cl S):∀t∈S,t.ok/\∃v l r,t=qa7 v l r/\inn S l/\inn S r:=by
 induction h with
 |nil=>intro t g;cases g
 | @snoc S v l r J B D C K ih=>
  intro t g;rcases vl.1 g with g|g
  ·obtain ⟨H,w,I,F,E,G,A⟩:=ih t g;exact ⟨H,w,I,F,E,bX G,bX A⟩
  ·obtain rfl:=wa.1 g;exact ⟨C,v,l,r,rfl,bX B,bX D⟩
theorem nodup {S:List Tr} (h:Cl S):S.Nodup:=by
 induction h with
 |nil=>exact List.nodup_nil
 | @snoc S v l r B C E D A ih=>rw [VC];refine ⟨ih,by simp,?_⟩;intro a w b g;rw [wa] at g;subst g;rintro rfl;exact A w
theorem inn_ok {S:List Tr} (h:Cl S) {t:Tr} (g:inn S t):t.ok:=by
 cases t with
 |qa6 b=>trivial
 |qa7 v l r=>exact (h.mem _ (cy g rfl)).1
theorem inn_kids {S:List Tr} (h:Cl S) {v:Nat} {l r:Tr} (w:inn S (qa7 v l r)):inn S l/\inn S r:=by obtain ⟨_,B,D,C,e,A,g⟩:=h.mem _ (cy w rfl);cases e;exact ⟨A,g⟩
theorem inn_lo {S:List Tr} (h:Cl S) {t:Tr} (g:inn S t) (v:Nat):inn S (lo v t):=by
 cases t with
 |qa6 b=>exact g
 |qa7 w l r=>
  simp only [lo];split
  ·exact (h.inn_kids g).1
  ·exact g
theorem inn_hi {S:List Tr} (h:Cl S) {t:Tr} (g:inn S t) (v:Nat):inn S (hi v t):=by
 cases t with
 |qa6 b=>exact g
 |qa7 w l r=>
  simp only [hi];split
  ·exact (h.inn_kids g).2
  ·exact g
end Cl
theorem dN {S:List Tr} {t:Tr} (h:inn S t):num S t<=S.length+1:=by
 cases t with
 |qa6 b=>simp only [num];split<;>omega
 |qa7 v l r=>have:=List.idxOf_lt_length_of_mem (cy h rfl);simp only [num];omega
theorem cU {S:List Tr} {t:Tr} (h:t.isL=nS):2<=num S t:=by
 cases t with
 |qa6 b=>cases h
 |qa7 v l r=>simp only [num];omega
theorem qi {S:List Tr} {t:Tr} (h:num S t<2):t.isL=nZ:=by
 cases t with
 |qa6 b=>rfl
 |qa7 v l r=>simp only [num] at h;omega
theorem cI (S:List Tr) (b:Bool):num S (qa6 b)<=1:=by simp only [num];split<;>omega
theorem ee {S:List Tr} {t:Tr} (h:t∈S) (w:t.isL=nS):S[num S t - 2]? =mB t:=by
 cases t with
 |qa6 b=>cases w
 |qa7 v l r=>have g:=List.idxOf_lt_length_of_mem h;simp only [num,Nat.add_sub_cancel];rw [N5 g,List.getElem_idxOf]
theorem cK {S:List Tr} {t u:Tr} (A:inn S t) (w:inn S u) (h:num S t=num S u):t=u:=by
 cases ht':t.isL with
 |true=>
  cases hu':u.isL with
  |true=>
   cases t with
   |qa7 _ _ _=>cases ht'
   |qa6 a=>
    cases u with
    |qa7 _ _ _=>cases hu'
    |qa6 b=>simp only [num] at h;cases a<;>cases b<;>simp at h ⊢
  |false=>
   have g:=cU (S:=S) hu';cases t with
   |qa7 _ _ _=>cases ht'
   |qa6 a=>have r:num S (qa6 a)<=1:=cI S a;omega
 |false=>
  cases hu':u.isL with
  |true=>
   have g:=cU (S:=S) ht';cases u with
   |qa7 _ _ _=>cases hu'
   |qa6 a=>have r:num S (qa6 a)<=1:=cI S a;omega
  |false=>have g:=ee (cy A ht') ht';have r:=ee (cy w hu') hu';rw [h,r] at g;exact (yV g).symm
theorem dO {S:List Tr} (g:Cl S) {k:Nat} {t:Tr} (h:S[k]? =mB t):num S t=k+2:=by
 have B:k<S.length:=(N6.1 h).1;have w:t∈S:=wh h;obtain ⟨_,v,l,r,rfl,_⟩:=g.mem t w;have C:=List.idxOf_lt_length_of_mem w;have A:S[S.idxOf (qa7 v l r)]=S[k]:=by rw [List.getElem_idxOf];exact (N6.1 h).2.symm
 have:=(List.getElem_inj g.nodup).1 A;simp only [num];omega
def tr (S:List Tr) (n:Nat):Tr:=
 if n=0 then qa6 nS else if n=1 then qa6 nZ else S.getD (n - 2) (qa6 nS)
theorem gB {S:List Tr} {n:Nat} (h:n<=S.length+1):inn S (tr S n):=by
 unfold tr;split
 ·exact fQ _ _
 ·split
  ·exact fQ _ _
  ·refine .inr ?_;rw [Vb,N5 (by omega)];exact Vw _
theorem fR {S:List Tr} (r:Cl S) {n:Nat} (h:n<=S.length+1):num S (tr S n)=n:=by
 unfold tr;split
 ·rename_i e;subst e;rfl
 ·split
  ·rename_i e;subst e;rfl
  ·have g:n - 2<S.length:=by omega
   have:=dO r (k:=n - 2) (t:=S[n - 2]) (N5 g);rw [Vb,N5 g];simp only [Option.getD_some];omega
theorem nT {S:List Tr} (g:Cl S) {t:Tr} (h:inn S t):tr S (num S t)=t:=
 cK (gB (dN h)) h (fR g (dN h))
theorem Gg {S X:List Tr} (g:Cl S) {t:Tr} (h:t∈S):br (S++X) t=br S t:=by obtain ⟨_,v,l,r,rfl,w,A⟩:=g.mem t h;simp only [br,bM w,bM A]
theorem sF {S X:List Tr} (g:Cl S):brs (S++X)=brs S++X.map (br (S++X)):=by unfold brs;rw [yO];congr 1;exact List.map_congr_left λt h=>Gg g h
theorem eg {S:List Tr} (g:Cl S) {v:Nat} {l r:Tr} (h:inn S l) (w:inn S r):brs (S++[qa7 v l r])=brs S++[⟨(v:Int),(num S l:Int),(num S r:Int)⟩]:=by rw [sF g];simp only [xV,List.map_nil,br,bM h,bM w]
theorem aP (S:List Tr):(brs S).length=S.length:=by simp [brs]
theorem jM {S:List Tr} {k:Nat} {t:Tr} (h:S[k]? =mB t):(brs S)[k]? =mB (br S t):=by simp [brs,h]
theorem J4 {S:List Tr} (A:Cl S) {t u:Tr} (E:t∈S) (F:u∈S) (h:br S t=br S u):t=u:=by obtain ⟨_,v,l,r,rfl,C,D⟩:=A.mem t E;obtain ⟨_,B,K,H,rfl,g,w⟩:=A.mem u F;simp only [br,Br.mk.injEq] at h;obtain ⟨J,G,I⟩:=h;rw [cK C g (by omega),cK D w (by omega),show v=B by omega]
theorem qj {S T:List Tr} (B:Cl S):Cl T->brs S=brs T->S=T:=by
 intro A;induction B generalizing T with
 |nil=>
  intro h;cases T with
  |nil=>rfl
  |cons a b=>have:=congrArg List.length h;simp [brs] at this
 | @snoc S v l r B D E O P ih=>
  intro h;cases A with
  |nil=>have:=congrArg List.length h;simp [brs] at this
  | @snoc T I M N A g w F H=>rw [eg B D E,eg A g w] at h;obtain ⟨G,C⟩:=List.append_inj' h rfl;obtain rfl:=ih A G;simp only [List.cons.injEq,Br.mk.injEq,and_true] at C;obtain ⟨K,L,J⟩:=C;rw [cK D g (by omega),cK E w (by omega),show v=I by omega]
def tV:Tr->List Tr->List Tr
 |qa6 _,S=>S
 |qa7 v l h,S=>if qa7 v l h∈S then S else tV h (tV l S)++[qa7 v l h]
theorem gn {S:List Tr} {t:Tr} (h:inn S t):tV t S=S:=by
 cases t with
 |qa6 b=>rfl
 |qa7 v l r=>unfold tV;rw [Χ (cy h rfl)]
theorem bk:∀(t:Tr) (S:List Tr),t.ok->Cl S->Cl (tV t S)/\inn (tV t S) t/\(∃X,tV t S=S++X/\∀x∈X,x.sz<=t.sz)
 |qa6 b,S,_,hS=>⟨hS,fQ _ _,[],by simp [tV],λx h=>by cases h⟩
 |qa7 v l r,S,hk,hS=>by
  unfold tV;split
  ·rename_i B;exact ⟨hS,.inr B,[],by simp,λx h=>by cases h⟩
  ·rename_i B;obtain ⟨I,G,X,E,C⟩:=bk l S hk.2.2.2.2.1 hS;obtain ⟨J,F,Y,A,D⟩:=bk r (tV l S) hk.2.2.2.2.2 I;have H:qa7 v l r ∉ tV r (tV l S):=by
    rw [A,E];intro g;rcases vl.1 g with g|g
    ·rcases vl.1 g with g|g
     ·exact B g
     ·have:=C _ g;simp only [sz] at this;omega
    ·have:=D _ g;simp only [sz] at this;omega
   refine ⟨.snoc J (by rw [A];exact bX G) F hk H,.inr (by simp),X++Y++[qa7 v l r],by rw [A,E];simp,λx w=> ?_⟩;simp only [vl,wa,or_assoc] at w;rcases w with w|w|w
   ·have:=C x w;simp only [sz];omega
   ·have:=D x w;simp only [sz];omega
   ·rw [w];exact tI _
def aV (t:Tr):List Tr:=tV t []
theorem bz {t:Tr} (h:t.ok):Cl (aV t):=(bk t [] h .nil).1
theorem bE {t:Tr} (h:t.ok):inn (aV t) t:=(bk t [] h .nil).2.1
abbrev wc:=List Br×Int
def ph (t:Tr):wc:=(brs (aV t),(num (aV t) t:Int))
theorem wG {t u:Tr} (g:t.ok) (w:u.ok) (h:ph t=ph u):t=u:=by unfold ph at h;simp only [YD] at h;obtain ⟨B,A⟩:=h;have r:=qj (bz g) (bz w) B;rw [<- r] at A;refine cK (bE g) ?_ (by omega);rw [r];exact bE w
def W8:Tr->Nat
 |qa6 _=>0
 |qa7 _ l h=>W8 l+W8 h+1
theorem li:∀(t:Tr) (S:List Tr),(tV t S).length<=S.length+W8 t
 |qa6 _,_=>tI _
 |qa7 v l r,S=>by
  unfold tV;split
  ·omega
  ·have h:=li l S;have g:=li r (tV l S);simp only [tT,Vc,W8];omega
theorem oO (t:Tr):(aV t).length<=W8 t:=by have:=li t [];simpa [aV] using this
open Go.Proofs.Tryz
theorem Yk:vV prog 3=mB (1,8):=by kernel_rfl
theorem sz9:vV prog 9=mB (1,16):=by kernel_rfl
theorem qgm:vV prog 30=mB (1,24):=by kernel_rfl
theorem qgn:vV prog 33=mB (2,32):=by kernel_rfl
theorem qgo:vV prog 41=mB (1,8):=by kernel_rfl
theorem qgp:vV prog 47=mB (4,32):=by kernel_rfl
theorem qgq:vV prog 64=mB (13,160):=by kernel_rfl
theorem qgr:vV prog 66=mB (3,24):=by kernel_rfl
theorem qgs:vV prog 80=mB (2,24):=by kernel_rfl
theorem PO:vV prog 130=mB (2,16):=by kernel_rfl
theorem qd3:vV prog 137=mB (4,56):=by kernel_rfl
theorem qdC:vV prog 140=mB (5,56):=by kernel_rfl
theorem qdD:vV prog 166=mB (7,112):=by kernel_rfl
theorem Et:vV prog 201=mB (3,24):=by kernel_rfl
theorem qdE:vV prog 223=mB (2,32):=by kernel_rfl
theorem qdF:vV prog 233=mB (9,104):=by kernel_rfl
theorem qdG:vV prog 236=mB (4,64):=by kernel_rfl
theorem PP:vV prog 313=mB (3,24):=by kernel_rfl
theorem Ym:bv prog 3=mB (Value.int .i64 0):=by kernel_rfl
theorem zr9:bv prog 9=mB (Value.string ⟨#[]⟩):=by kernel_rfl
theorem qgt:bv prog 30=mB (Value.slice nC 0 0):=by kernel_rfl
theorem SN:bv prog 33=mB (Value.agg (#[Value.slice nC 0 0,Value.int .i64 0])):=by kernel_rfl
theorem qgu:bv prog 41=mB (Value.int .u64 0):=by kernel_rfl
theorem qgv:bv prog 47=mB (Value.agg (#[Value.int .i64 0,Value.int .i64 0,Value.int .i64 0,Value.int .i64 0])):=by kernel_rfl
theorem qfV:bv prog 64=mB (Value.agg (#[Value.string ⟨#[]⟩,Value.int .i64 0,Value.slice nC 0 0,Value.slice nC 0 0,Value.int .i64 0,Value.bool nS,Value.int .i64 0,Value.slice nC 0 0,Value.bool nS,Value.int .i64 0,Value.int .i64 0,Value.int .i64 0,Value.int .i64 0])):=by kernel_rfl
theorem qfW:bv prog 66=mB (Value.agg (#[Value.int .i64 0,Value.int .i64 0,Value.int .i64 0])):=by kernel_rfl
theorem qfX:bv prog 80=mB (Value.agg (#[Value.string ⟨#[]⟩,Value.int .i64 0])):=by kernel_rfl
theorem PQ:bv prog 130=mB (Value.agg (#[Value.bool nS,Value.int .i64 0])):=by kernel_rfl
theorem qdH:bv prog 137=mB (Value.agg (#[Value.int .i64 0,Value.int .i64 0,Value.string ⟨#[]⟩,Value.slice nC 0 0])):=by kernel_rfl
theorem qdI:bv prog 140=mB (Value.agg (#[Value.int .i64 0,Value.int .i64 0,Value.int .i64 0,Value.bool nS,Value.slice nC 0 0])):=by kernel_rfl
theorem qdJ:bv prog 166=mB (Value.agg (#[Value.string ⟨#[]⟩,Value.int .i64 0,Value.string ⟨#[]⟩,Value.slice nC 0 0,Value.string ⟨#[]⟩,Value.slice nC 0 0,Value.int .i64 0])):=by kernel_rfl
theorem Eu:bv prog 201=mB (Value.agg (#[Value.int .i64 0,Value.int .i64 0,Value.int .i64 0])):=by kernel_rfl
theorem qeU:bv prog 223=mB (Value.agg (#[Value.int .i64 0,Value.slice nC 0 0])):=by kernel_rfl
theorem qeV:bv prog 233=mB (Value.agg (#[Value.int .i64 0,Value.int .i64 0,Value.int .i64 0,Value.int .i64 0,Value.int .i64 0,Value.int .i64 0,Value.slice nC 0 0,Value.slice nC 0 0,Value.int .i64 0])):=by kernel_rfl
theorem qeW:bv prog 236=mB (Value.agg (#[Value.slice nC 0 0,Value.int .i64 0,Value.slice nC 0 0,Value.int .i64 0])):=by kernel_rfl
theorem PR:bv prog 313=mB (Value.agg (#[Value.int .i64 0,Value.int .i64 0,Value.int .i64 0])):=by kernel_rfl
section
variable {P:Program} {n:Nat} {Q:Exit->En->PH->Prop} {E:En} {F:PH} {ops:Array Oper} {l:List Oper} {d:Tmp} {op:Op} {ty:TypeId} {pos:String} {aft:Array Edge} {gd:Option (Nat×Bool)}
theorem qfY {L:Func} {r O A J:ResultVar} {v R D K:Value} (h:L.results= #[r,O,A,J]) (M:gM P E F r v) (B:gM P E F O R) (g:gM P E F A D) (G:gM P E F J K):oI P L E F (.tuple #[v,R,D,K]):=λe w N st C=>by have k:=dM M st C;have k':=dM B st C;have I:=dM g st C;have Z:=dM G st C;clear C M B g G;rcases k with ⟨t,rfl,h1⟩|⟨x,t,a,rfl,h1,h2⟩<;>rcases k' with ⟨t',rfl,X⟩|⟨x',t',a',rfl,X,h4⟩<;>rcases I with ⟨H,rfl,V⟩|⟨U,H,a0,rfl,V,h6⟩<;>rcases Z with ⟨W,rfl,Y⟩|⟨x3,W,a3,rfl,Y,h8⟩<;>simp [results,asAddr, *]
end
section
variable {P:Program} {F:PH} {E:En} {o:Oper} {x y:Operand} {t t':TypeId}
theorem SO {c d:ByteArray} (A:o.op=.binOp .add t x y t') (g:ev E x=.string c) (w:ev E y=.string d) (h:c.size+d.size<=9223372036854775807):RD P E F o (.string (c++d)):=by
 have e:IntKind.i64.max=9223372036854775807:=by decide
 have r:¬(((c.size+d.size:Nat):Int)>IntKind.i64.max):=by rw [e];omega
 simp only [RD,execOp,A,g,w,am];refine ⟨.string (c++d),⟨(),bj rfl,?_⟩,rfl⟩;show s9 P (Op.stringOp .add c d) F _;unfold Op.stringOp;simp only [Υ r];rfl
theorem SP {c d:ByteArray} (r:o.op=.binOp .lss t x y t') (g:ev E x=.string c) (h:ev E y=.string d):RD P E F o (.bool (Op.bytesLess c.toList d.toList)):=by simp only [RD,execOp,r,g,h,am];exact ⟨_,⟨(),bj rfl,rfl⟩,rfl⟩
theorem SQ {c d:ByteArray} (r:o.op=.binOp .geq t x y t') (g:ev E x=.string c) (h:ev E y=.string d):RD P E F o (.bool (!Op.bytesLess c.toList d.toList)):=by simp only [RD,execOp,r,g,h,am];exact ⟨_,⟨(),bj rfl,rfl⟩,rfl⟩
theorem J5 {e:TypeId} {v:Value} {s:ByteArray} (r:o.op=.convert t t' x) (g:ev E x=v) (C:P.underlying t=mB (.slice e)) (w:P.underlying t'=mB .string) (B:P.underlying e=mB (.int .u8))
  (A:∃b l c,v=.slice b l c) (h:s9 P (Conv.bytesToString v) F (.string s)):RD P E F o (.string s):=by
 obtain ⟨b,l,c,rfl⟩:=A;simp only [RD,execOp,r,g,am,convert];refine ⟨_,⟨_,(aA C _).2 rfl,_,(aA w _).2 rfl,?_⟩,rfl⟩;cases b<;>(simp only [am];exact ⟨_,(aA B _).2 rfl,h⟩)
variable {K:En->PH->Prop} {d:Tmp} {ty:TypeId} {pos:String} {aft:Array Edge} {gd:Option (Nat×Bool)}
theorem J6 {m:Option Nat} {r:Value} (w:o.op=.call {callee:=.builtin .len,args:= #[x],argTypes:= #[t]}) (g:ev E x=.map m) (h:s9 P (Builtin.len_ #[t] o.type #[.map m]) F r):RD P E F o r:=by simp [RD,execOp,w,resolve,invoke,builtin,g];exact h
theorem Nh {v r:Value} (w:o.op=.entry x) (g:ev E x=v) (h:s9 P (Instr.entry v) F r):RD P E F o r:=by simp only [RD,execOp,w,g,am];exact ⟨_,h,rfl⟩
end
abbrev VR:=Value->PH->Prop
abbrev rj (F:PH) (a:Addr) (v:Value) (K:PH->Prop):Prop:=
 ∃c e,F a.block=mB (mX c e (0,0))/\a.spot=nC/\a.off<c.size/\wn (F.set a.block (mX (c.setIfInBounds a.off v) e)) K
abbrev aB (F:PH) (a:Addr) (n:Nat) (v:Array Value) (K:PH->Prop):Prop:=
 v.size=n/\(∀x∈v.toList,ak x)/\∃c e,F a.block=mB (mX c e (0,0))/\a.spot=nC/\a.off+n<=c.size/\wn (F.set a.block (mX (wr c a.off v.toList) e)) K
def wH (u:Value) (b:Bool):Prop:=(u=.nilFunc/\b=nZ)\/((∃f x y,u=.func f x y)/\b=nS)
namespace Rx
inductive Kd|int (k:IntKind)|bool|ptr|sl|str|map|agg|any
def Kd.T:Kd->Type
 | .int _=>Int| .bool=>Bool| .ptr=>Option Addr| .sl=>Sl| .str=>ByteArray| .map=>Option Nat| .agg=>Array Value| .any=>Value
def Kd.v:(k:Kd)->k.T->Value
 | .int k,x=> .int k x| .bool,b=> .bool b| .ptr,p=> .pointer p| .sl,s=>Sl.v s| .str,s=> .string s| .map,m=> .map m| .agg,c=> .agg c| .any,v=>v
def XS:TypeDesc->Kd
 | .int k=> .int k| .bool=> .bool| .string=> .str| .pointer _=> .ptr| .slice _=> .sl| .map _ _=> .map| .struct _=> .agg| .array _ _=> .agg|_=> .any
def kd (P:Program) (t:TypeId):Kd:=match P.underlying t with|some d=>XS d|none=> .any
inductive SV|c (v:Value)|any (v:Value)|ad (a:Addr)|lit (b:Bool)|vt (w:Array Value)|und|ref (i:Nat)|unk
inductive SB|bool (b:Bool)|prp (p:Prop) (d:Decidable p)|lit (b:Bool)|ptr (p:Option Addr)|ad (a:Addr)
def SB.v:SB->Value
 | .bool b=> .bool b| .prp p d=> .bool (@decide p d)| .lit b=> .bool b| .ptr p=> .pointer p| .ad a=> .pointer (mB a)
inductive VW|c (v:Value)|any (v:Value)|ad (a:Addr)|lit (b:Bool)|vt (w:Array Value)|und|bool (i:Nat) (b:Bool)|prp (i:Nat) (p:Prop) (d:Decidable p)|ptr (i:Nat) (p:Option Addr)|unk
def SB.vw (i:Nat):SB->VW
 | .bool b=> .bool i b| .prp p d=> .prp i p d| .lit b=> .lit b| .ptr p=> .ptr i p| .ad a=> .ad a
def SV.vw (T:Nat->Option SB):SV->VW
 | .c v=> .c v| .any v=> .any v| .ad a=> .ad a| .lit b=> .lit b| .vt w=> .vt w| .und=> .und
 | .ref i=>(match T i with|some s=>s.vw i|none=> .unk)
 | .unk=> .unk
def VW.val:VW->Option Value
 | .c v=>mB v| .any v=>mB v| .ad a=>mB (.pointer (mB a))| .lit b=>mB (.bool b)| .vt w=>mB (.tuple w)| .und=>mB undef
 | .bool _ b=>mB (.bool b)| .prp _ p d=>mB (.bool (@decide p d))| .ptr _ p=>mB (.pointer p)| .unk=>nC
structure Sy where
 S:Nat->SV
 T:Nat->Option SB
 n:Nat
def up {α:Type} (f:Nat->α) (d:Nat) (x:α):Nat->α:=λt=>bif Nat.beq t d then x else f t
def Xd:Value->SV
 | .bool b=> .lit b|v=> .c v
def Sy.cp (σ:Sy):Operand->SV
 | .tmp t=>σ.S t| .const v=>Xd v| .global g=> .ad ⟨g,0,nC⟩| .func f=> .c (.func (.func f) #[] #[])
def Sy.ov (σ:Sy) (x:Operand):VW:=(σ.cp x).vw σ.T
def Sy.vw (σ:Sy) (t:Nat):VW:=(σ.S t).vw σ.T
inductive NV|sv (s:SV)|nb (b:SB)
def Sy.put (σ:Sy) (d:Nat):NV->Sy
 | .sv s=>⟨up σ.S d s,σ.T,σ.n⟩
 | .nb b=>⟨up σ.S d (.ref σ.n),up σ.T σ.n (mB b),σ.n+1⟩
def Sy.putO (σ:Sy):Option Tmp->NV->Sy
 |some d,v=>σ.put d v
 |none,_=>σ
def Sy.rf (σ:Sy) (i:Nat) (b:SB):Sy:=⟨σ.S,up σ.T i (mB b),σ.n⟩
def Kd.nv:(k:Kd)->k.T->NV
 | .int k,x=> .sv (.c (.int k x))| .bool,b=> .nb (.bool b)| .ptr,p=> .nb (.ptr p)| .sl,s=> .sv (.c (Sl.v s))| .str,s=> .sv (.c (.string s))| .map,m=> .sv (.c (.map m))| .agg,c=> .sv (.c (.agg c))| .any,v=> .sv (.any v)
def Za:Kd->Value->NV
 | .any,v=> .sv (.any v)
 | .bool,v=>(match v with| .bool b=> .nb (.bool b)|_=> .sv .unk)
 | .ptr,v=>(match v with| .pointer p=> .nb (.ptr p)|_=> .sv .unk)
 |_,v=> .sv (.c v)
def pf:List Nat->Nat->Bool
 |[],_=>nS
 |x::l,t=>bif Nat.beq t x then nZ else pf l t
def Sy.hav (σ:Sy) (M:List Nat):Sy:=⟨λt=>bif pf M t then .unk else σ.S t,σ.T,σ.n⟩
def XO (σ:Sy) (x:Operand) (K:Sy->Addr->Prop):Prop:=
 match σ.ov x with
 | .ad a=>K σ a
 | .ptr i p=>∃a:Addr,p=mB a/\K (σ.rf i (.ad a)) a
 | .c (.pointer (mB a))=>K σ a
 |_=>False
def wI (σ:Sy):List Operand->(List Value->Prop)->Prop
 |[],K=>K []
 |x::l,K=>match (σ.ov x).val with|some v=>wI σ l (λus=>K (v::us))|none=>False
abbrev RK:=Sy->NV->Option (PH->Prop)->Prop
def y5 (b:Bool) (K:Prop):Prop:=match b with|true=>K|false=>False
def ZP (op:BinOp) (k:IntKind) (a b:Int) (lit:Bool) (K:NV->Prop):Prop:=
 match op with
 | .add=>K (.sv (.c (.int k (k.wrap (a+b)))))
 | .sub=>K (.sv (.c (.int k (k.wrap (a - b)))))
 | .mul=>K (.sv (.c (.int k (k.wrap (a*b)))))
 | .quo=>(match lit with|true=>(match decide (b≠0) with|true=>K (.sv (.c (.int k (k.wrap (Int.tdiv a b)))))|false=>False)|false=>b≠0/\K (.sv (.c (.int k (k.wrap (Int.tdiv a b))))))
 | .rem=>(match lit with|true=>(match decide (b≠0) with|true=>K (.sv (.c (.int k (Int.tmod a b))))|false=>False)|false=>b≠0/\K (.sv (.c (.int k (Int.tmod a b)))))
 | .and=>K (.sv (.c (.int k (k.wrap ((BitVec.ofInt k.bits a &&& BitVec.ofInt k.bits b).toNat)))))
 | .or=>K (.sv (.c (.int k (k.wrap ((BitVec.ofInt k.bits a ||| BitVec.ofInt k.bits b).toNat)))))
 | .xor=>K (.sv (.c (.int k (k.wrap ((BitVec.ofInt k.bits a ^^^ BitVec.ofInt k.bits b).toNat)))))
 | .andNot=>K (.sv (.c (.int k (k.wrap ((BitVec.ofInt k.bits a &&& ~~~ BitVec.ofInt k.bits b).toNat)))))
 | .lss=>K (.nb (.prp (a<b) inferInstance))
 | .leq=>K (.nb (.prp (a<=b) inferInstance))
 | .gtr=>K (.nb (.prp (b<a) inferInstance))
 | .geq=>K (.nb (.prp (b<=a) inferInstance))
 | .eql=>K (.nb (.prp (a=b) inferInstance))
 | .neq=>K (.nb (.prp (a≠b) inferInstance))
 |_=>False
def ZO (op:BinOp) (k:IntKind) (a b:Int) (lit:Bool) (K:NV->Prop):Prop:=
 match op with
 | .shl=>(match lit with|true=>(match decide (0<=b) with|true=>K (.sv (.c (.int k (k.wrap (a*2 ^ (min b.toNat k.bits))))))|false=>False)|false=>0<=b/\K (.sv (.c (.int k (k.wrap (a*2 ^ (min b.toNat k.bits)))))))
 | .shr=>(match lit with|true=>(match decide (0<=b) with|true=>K (.sv (.c (.int k (a.fdiv (2 ^ (min b.toNat k.bits))))))|false=>False)|false=>0<=b/\K (.sv (.c (.int k (a.fdiv (2 ^ (min b.toNat k.bits)))))))
 |_=>False
def Ni:BinOp->Bool
 | .shl=>nZ| .shr=>nZ|_=>nS
def wJ:Operand->Bool
 | .const _=>nZ|_=>nS
def VW.tv:VW->Option Bool
 | .lit b=>mB b| .bool _ b=>mB b| .prp _ p d=>mB (@decide p d)|_=>nC
def J7 (P:Program) (σ:Sy) (op:BinOp) (t:TypeId) (x y:Operand) (K:NV->Prop):Prop:=
 match σ.ov x,σ.ov y with
 | .c (.int k a),.c (.int k' b)=>(match Ni op with|true=>ZO op k a b (wJ y) K|false=>(match decide (k=k') with|true=>ZP op k a b (wJ y) K|false=>False))
 | .c (.string c),.c (.string d)=>(match op with
  | .add=>c.size+d.size<=9223372036854775807/\K (.sv (.c (.string (c++d))))
  | .lss=>K (.nb (.bool (Op.bytesLess c.toList d.toList)))
  | .geq=>K (.nb (.bool (!Op.bytesLess c.toList d.toList)))
  | .eql=>K (.nb (.bool (c.toList==d.toList)))
  | .neq=>K (.nb (.bool (!(c.toList==d.toList))))
  |_=>False)
 | .ad _,.c (.pointer nC)=>(match P.underlying t,op with|some (.pointer _),.eql=>K (.sv (.lit nS))|some (.pointer _),.neq=>K (.sv (.lit nZ))|_,_=>False)
 | .ptr _ p,.c (.pointer nC)=>(match P.underlying t,op with|some (.pointer _),.eql=>K (.nb (.bool p.isNone))|some (.pointer _),.neq=>K (.nb (.bool (!p.isNone)))|_,_=>False)
 | .c (.slice b _ _),.c (.slice nC 0 0)=>(match P.underlying t,op with|some (.slice _),.eql=>K (.nb (.bool b.isNone))|some (.slice _),.neq=>K (.nb (.bool (!b.isNone)))|_,_=>False)
 | .c (.agg c),.c (.agg d)=>(match P.eqGuardType P.depth t,op with
  |false,.eql=>∃v:Bool,(∀F,s9 P (Op.equal t (.agg c) (.agg d)) F v)/\K (.nb (.bool v))
  |false,.neq=>∃v:Bool,(∀F,s9 P (Op.equal t (.agg c) (.agg d)) F v)/\K (.nb (.bool (!v)))
  |_,_=>False)
 | .any u,.c .nilFunc=>(match P.underlying t,op with
  |some (.func _ _ _),.eql=>∃v:Bool,wH u v/\K (.nb (.bool v))
  |some (.func _ _ _),.neq=>∃v:Bool,wH u v/\K (.nb (.bool (!v)))
  |_,_=>False)
 |u,w=>(match P.underlying t,u.tv,w.tv with
  |some .bool,mB a,mB b=>(match op with| .eql=>K (.nb (.bool (a==b)))| .neq=>K (.nb (.bool (!(a==b))))|_=>False)
  |_,_,_=>False)
def SR (P:Program) (t:TypeId) (a:Addr) (F:PH) (K:NV->(PH->Prop)->Prop):Prop:=
 match P.underlying t with
 |none=>False
 |some d=>match XS d with
  | .agg=>(match vV P t with|some (n,_)=>∃v:Array Value,v.size=n/\F.row a v/\K (.sv (.c (.agg v))) (λF=>F.row a v)|none=>False)
  |k=>∃x:k.T,F.cell a=mB (k.v x)/\K (k.nv x) (λF=>F.cell a=mB (k.v x))
def wK (σ:Sy) (y:Option Operand) (dflt:Nat) (K:Nat->Prop):Prop:=
 match y with
 |none=>K dflt
 |some y=>match σ.ov y with
  | .c (.int _ i)=>(match wJ y with|true=>(match decide (0<=i) with|true=>K i.toNat|false=>False)|false=>0<=i/\K i.toNat)
  |_=>False
def XD (σ:Sy) (place:Nat->Option (Nat×Nat)) (n:Nat):List (Nat×Operand)->Array Value->(Array Value->Prop)->Prop
 |[],cs,K=>K cs
 | (i,x)::l,cs,K=>match place i with
  |none=>False
  |some (off,s)=>match σ.ov x with
   | .c (.agg c)=>(match Nat.ble (off+s) n with|true=>c.size=s/\XD σ place n l (wr cs off c.toList) K|false=>False)
   | .c v=>(match Nat.beq s 1,Nat.blt off n with|true,nZ=>XD σ place n l (cs.setIfInBounds off v) K|_,_=>False)
   | .any _=>False
   |w=>(match Nat.beq s 1,Nat.blt off n,w.val with|true,nZ,mB v=>XD σ place n l (cs.setIfInBounds off v) K|_,_,_=>False)
def Xe:Op->Bool
 | .move _| .assign _| .pick _ _ _| .nilCheck _| .extract _ _| .fieldAddr _ _ _| .load _ _| .indexAddr _ _ _| .index _ _ _| .field _ _ _| .binOp _ _ _ _ _| .unOp _ _ _| .convert _ _ _| .slice _ _ _ _ _
 | .build _ _| .lookup _ _ _ _| .makeFunc _ _ _| .entry _=>nZ
 | .call ⟨.builtin .len,_,_⟩| .call ⟨.builtin .cap,_,_⟩| .call ⟨.builtin .max,_,_⟩| .call ⟨.builtin .min,_,_⟩=>nZ
 |_=>nS
def ZD (P:Program) (σ:Sy) (o:Oper) (F:PH) (K:RK):Prop:=
 match o.op with
 | .move x=>K σ (.sv (σ.cp x)) nC
 | .assign x=>K σ (.sv (σ.cp x)) nC
 | .pick c a b=>(match σ.ov c with| .lit nZ=>K σ (.sv (σ.cp a)) nC| .lit nS=>K σ (.sv (σ.cp b)) nC|_=>False)
 | .nilCheck x=>(match σ.ov x with
  | .c (.func (.func _) _ _)=>K σ (.sv (σ.cp x)) nC
  |_=>XO σ x λσ a=>K σ (.sv (.ad a)) nC)
 | .extract x i=>(match σ.ov x with
  | .c (.tuple vs)=>(match vs[i]? with|some v=>K σ (Za (kd P o.type) v) nC|none=>False)
  | .vt w=>∃v:(kd P o.type).T,w[i]? =mB ((kd P o.type).v v)/\K σ ((kd P o.type).nv v) nC
  |_=>False)
 | .fieldAddr t x i=>(match P.underlying t with
  |some (.struct fs)=>(match fs[i]? with
   |some f=>(match vV P f.type with|some (_+1,_)=>XO σ x λσ a=>K σ (.sv (.ad (a.add f.offset))) nC|_=>False)
   |none=>False)
  |_=>False)
 | .load t x=>XO σ x λσ a=>SR P t a F λv ck=>K σ v (mB ck)
 | .indexAddr t x y=>(match σ.ov y,P.underlying t with
  | .c (.int _ i),mB (.slice e)=>(match σ.ov x,vV P e with
   | .c (.slice qa5 len _),mB (s,_)=>∃a:Addr,qa5=mB a/\0<=i/\i<(len:Int)/\K σ (.sv (.ad (a.add (i.toNat*s)))) nC
   |_,_=>False)
  | .c (.int _ i),mB (.array n e)=>(match vV P e with
   |some (s,_)=>XO σ x λσ a=>0<=i/\i<(n:Int)/\K σ (.sv (.ad (a.add (i.toNat*s)))) nC
   |_=>False)
  |_,_=>False)
 | .index t x y=>(match σ.ov x,σ.ov y,P.underlying t with
  | .c (.string s),.c (.int _ i),mB .string=>0<=i/\i<(s.size:Int)/\∃(hx:Int.toNat i<s.size) (v:Int),v=((s[Int.toNat i]'hx).toNat:Int)/\K σ (.sv (.c (.int .u8 v))) nC
  | .c (.agg cs),.c (.int _ i),mB (.array n e)=>(match P.underlying e,vV P e with
   |some d,mB (s,_)=>(match XS d with
    | .agg=>False
    |k=>0<=i/\i<(n:Int)/\∃v:k.T,cs[i.toNat*s]? =mB (k.v v)/\K σ (k.nv v) nC)
   |_,_=>False)
  |_,_,_=>False)
 | .field t x i=>(match σ.ov x,P.underlying t with
  | .c (.agg cs),mB (.struct fs)=>(match fs[i]? with
   |some f=>(match P.underlying f.type,vV P f.type with
    |some d,mB (s,_)=>(match XS d with
     | .agg=>K σ (.sv (.c (.agg (cs.extract f.offset (f.offset+s))))) nC
     |k=>∃v:k.T,cs[f.offset]? =mB (k.v v)/\K σ (k.nv v) nC)
    |_,_=>False)
   |none=>False)
  |_,_=>False)
 | .binOp op t x y _=>J7 P σ op t x y λv=>K σ v nC
 | .unOp op _ x=>(match op,σ.ov x with
  | .not,.lit b=>K σ (.sv (.lit (!b))) nC
  | .not,.bool _ b=>K σ (.nb (.bool (!b))) nC
  | .not,.prp _ p d=>K σ (.nb (.prp (¬p) (@instDecidableNot p d))) nC
  | .neg,.c (.int k a)=>K σ (.sv (.c (.int k (k.wrap (0 - a))))) nC
  |_,_=>False)
 | .convert t t' x=>(match σ.ov x,P.underlying t,P.underlying t' with
  | .c (.int _ a),mB _,mB (.int k')=>K σ (.sv (.c (.int k' (k'.wrap a)))) nC
  | .c (.slice b l c),mB (.slice e),mB .string=>(match P.underlying e with
   |some (.int .u8)=>∃s:ByteArray,s9 P (Conv.bytesToString (.slice b l c)) F (.string s)/\K σ (.sv (.c (.string s))) (mB λF=>s9 P (Conv.bytesToString (.slice b l c)) F (.string s))
   |_=>False)
  |_,_,_=>False)
 | .slice t x lo hi mx=>(match P.underlying t,mx with
  |some (.slice e),nC=>(match σ.ov x,vV P e with
   | .c (.slice b len cap),mB (sz,_)=>wK σ lo 0 λl=>wK σ hi len λh=>l<=h/\h<=cap/\K σ (.sv (.c (Sl.v (Sl.cut ⟨b,len,cap⟩ sz l h cap)))) nC
   |_,_=>False)
  |some .string,nC=>(match σ.ov x with
   | .c (.string s)=>wK σ lo 0 λl=>wK σ hi s.size λh=>l<=h/\h<=s.size/\K σ (.sv (.c (.string (s.extract l h)))) nC
   |_=>False)
  |some (.array n e),nC=>(match vV P e,lo,hi with
   |some (sz,_),nC,nC=>XO σ x λσ a=>K σ (.sv (.c (Sl.v (Sl.cut ⟨mB a,n,n⟩ sz 0 n n)))) nC
   |some (sz,_),lo,hi=>XO σ x λσ a=>wK σ lo 0 λl=>wK σ hi n λh=>l<=h/\h<=n/\K σ (.sv (.c (Sl.v (Sl.cut ⟨mB a,n,n⟩ sz l h n)))) nC
   |_,_,_=>False)
  |some (.slice e),mB mx=>(match σ.ov x,vV P e,hi.map σ.ov,σ.ov mx with
   | .c (.slice b len cap),mB (sz,_),mB (.c (.int _ i)),.c (.int _ m)=>wK σ lo 0 λl=>
    0<=i/\0<=m/\l<=i.toNat/\i<=m/\m<=(cap:Int)/\K σ (.sv (.c (Sl.v (Sl.cut ⟨b,len,cap⟩ sz l i.toNat m.toNat)))) nC
   |_,_,_,_=>False)
  |_,_=>False)
 | .build t parts=>(match P.underlying t,bv P t with
  |some (.struct fs),mB z=>y5 (jf P fs) (XD σ (λi=>(mC P fs)[i]?) z.cells.size parts.toList z.cells λcs=>K σ (.sv (.c (.agg cs))) nC)
  |some (.array _ e),mB z=>(match vV P e with
   |some (s,_)=>XD σ (λi=>mB (i*s,s)) z.cells.size parts.toList z.cells λcs=>K σ (.sv (.c (.agg cs))) nC
   |none=>False)
  |_,_=>False)
 | .makeFunc (.func f) first cap=>wI σ first.toList λus=>wI σ cap.toList λvs=>K σ (.sv (.c (.func (.func f) us.toArray vs.toArray))) nC
 | .lookup t x y ok=>(match (σ.ov x).val,(σ.ov y).val,P.underlying t with
  |some u,mB v,mB (.map _ e)=>(match ok with
   |true=>∃(r:(kd P e).T) (b:Bool),s9 P (Instr.lookup t u v nZ) F (.tuple #[(kd P e).v r,.bool b])/\K σ (.sv (.c (.tuple #[(kd P e).v r,.bool b]))) (mB λF=>s9 P (Instr.lookup t u v nZ) F (.tuple #[(kd P e).v r,.bool b]))
   |false=>∃r:(kd P e).T,s9 P (Instr.lookup t u v nS) F ((kd P e).v r)/\K σ ((kd P e).nv r) (mB λF=>s9 P (Instr.lookup t u v nS) F ((kd P e).v r)))
  |_,_,_=>False)
 | .entry x=>(match (σ.ov x).val with
  |some u=>∃w:Array Value,s9 P (Instr.entry u) F (.tuple w)/\K σ (.sv (.vt w)) (mB λF=>s9 P (Instr.entry u) F (.tuple w))
  |none=>False)
 | .call ⟨.builtin b,args,ts⟩=>(match b,args.toList.map σ.ov,ts.toList with
  | .len,[.c (.slice _ l _)],[t]=>(match P.underlying t with|some (.slice _)=>K σ (.sv (.c (.int .i64 (l:Int)))) nC|_=>False)
  | .len,[.c (.string s)],[t]=>(match P.underlying t with|some .string=>K σ (.sv (.c (.int .i64 (s.size:Int)))) nC|_=>False)
  | .len,[.c (.map m)],[t]=>∃v:Int,s9 P (Builtin.len_ #[t] o.type #[.map m]) F (.int .i64 v)/\K σ (.sv (.c (.int .i64 v))) (mB λF=>s9 P (Builtin.len_ #[t] o.type #[.map m]) F (.int .i64 v))
  | .cap,[.c (.slice _ _ c)],[t]=>(match P.underlying t with|some (.slice _)=>K σ (.sv (.c (.int .i64 (c:Int)))) nC|_=>False)
  | .max,[.c (.int k a),.c (.int k' b)],_=>y5 (decide (k=k')) (K σ (.sv (.c (.int k (max a b)))) nC)
  | .min,[.c (.int k a),.c (.int k' b)],_=>y5 (decide (k=k')) (K σ (.sv (.c (.int k (min a b)))) nC)
  | .max,[.c (.int k a),.c (.int k' b),.c (.int k'' c)],_=>y5 (decide (k=k'/\k=k'')) (K σ (.sv (.c (.int k (max (max a b) c)))) nC)
  | .min,[.c (.int k a),.c (.int k' b),.c (.int k'' c)],_=>y5 (decide (k=k'/\k=k'')) (K σ (.sv (.c (.int k (min (min a b) c)))) nC)
  |_,_,_=>False)
 |_=>False
def za (P:Program) (σ:Sy) (d:Option Tmp) (t:TypeId) (v:Value) (K:Sy->Prop):Prop:=
 match d with
 |none=>K σ
 |some d=>match P.underlying t with
  |some (.tuple ts)=>(match ts.toList with
   |[]=>v=.tuple #[]/\K (σ.put d (.sv (.c (.tuple #[]))))
   |[a]=>∃x:(kd P a).T,v=.tuple #[(kd P a).v x]/\K (σ.put d (.sv (.c (.tuple #[(kd P a).v x]))))
   |[a,b]=>∃x:(kd P a).T,∃y:(kd P b).T,v=.tuple #[(kd P a).v x,(kd P b).v y]/\K (σ.put d (.sv (.c (.tuple #[(kd P a).v x,(kd P b).v y]))))
   |[a,b,c]=>∃x:(kd P a).T,∃y:(kd P b).T,∃z:(kd P c).T,v=.tuple #[(kd P a).v x,(kd P b).v y,(kd P c).v z]/\K (σ.put d (.sv (.c (.tuple #[(kd P a).v x,(kd P b).v y,(kd P c).v z]))))
   |[a,b,c,e]=>∃x:(kd P a).T,∃y:(kd P b).T,∃z:(kd P c).T,∃u:(kd P e).T,v=.tuple #[(kd P a).v x,(kd P b).v y,(kd P c).v z,(kd P e).v u]/\K (σ.put d (.sv (.c (.tuple #[(kd P a).v x,(kd P b).v y,(kd P c).v z,(kd P e).v u]))))
   |[a,b,c,e,f]=>∃x:(kd P a).T,∃y:(kd P b).T,∃z:(kd P c).T,∃u:(kd P e).T,∃w:(kd P f).T,v=.tuple #[(kd P a).v x,(kd P b).v y,(kd P c).v z,(kd P e).v u,(kd P f).v w]/\K (σ.put d (.sv (.c (.tuple #[(kd P a).v x,(kd P b).v y,(kd P c).v z,(kd P e).v u,(kd P f).v w]))))
   |_=>False)
  |_=>∃x:(kd P t).T,v=(kd P t).v x/\K (σ.put d ((kd P t).nv x))
abbrev EK:=Bool->Sy->PH->Prop
def Xz (σ:Sy) (d:Option Tmp) (o:Obj) (s:Nat->SV) (F:PH) (K:EK):Prop:=
 ∀b,F b=nC->wn (F.set b o) λF=>K nZ (σ.putO d (.sv (s b))) F
def Nj (σ:Sy):Nat->List (Nat×Operand)->Option (List Value)
 |_,[]=>mB []
 |k,(i,x)::l=>match Nat.beq i k,σ.ov x with
  |true,.c (.agg _)=>nC
  |true,.any _=>nC
  |true,w=>(match w.val,Nj σ (k+1) l with|some v,mB vs=>mB (v::vs)|_,_=>nC)
  |false,_=>nC
def ZB (P:Program) (σ:Sy) (o:Oper) (F:PH) (K:EK):Prop:=
 match o.op with
 | .alloc t=>(match bv P t with|some z=>Xz σ o.dst (mX z.cells t) (λb=> .ad ⟨b,0,nC⟩) F K|none=>False)
 | .box t x=>(match σ.ov x with
  | .c (.agg c)=>Xz σ o.dst (mX c t) (λb=> .ad ⟨b,0,nC⟩) F K
  | .any v=>v.cells= #[v]/\Xz σ o.dst (mX #[v] t) (λb=> .ad ⟨b,0,nC⟩) F K
  |w=>(match w.val with|some v=>Xz σ o.dst (mX #[v] t) (λb=> .ad ⟨b,0,nC⟩) F K|none=>False))
 | .buildSlice t m parts=>(match P.underlying t with
  |some (.slice e)=>(match vV P e,bv P e with
   |some (s,_),mB z=>(match Nat.ble (m*s) 16777216,Nat.beq z.cells.size s,Nat.blt 0 s with
    |true,nZ,nZ=>(match Nat.beq s 1,Nat.beq parts.toList.length m,Nj σ 0 parts.toList with
     |true,nZ,mB l=>Xz σ o.dst (mX l.toArray e) (λb=> .c (Sl.v ⟨mB ⟨b,0,nC⟩,m,m⟩)) F K
     |_,_,_=>(match m,parts.toList.map (λp=>(p.1,σ.ov p.2)) with
      |1,[(0,.c (.agg c))]=>c.size=s/\Xz σ o.dst (mX c e) (λb=> .c (Sl.v ⟨mB ⟨b,0,nC⟩,1,1⟩)) F K
      |m,_=>XD σ (λi=>mB (i*s,s)) (m*s) parts.toList ((List.replicate m z.cells.toList).flatten).toArray λcs=>Xz σ o.dst (mX cs e) (λb=> .c (Sl.v ⟨mB ⟨b,0,nC⟩,m,m⟩)) F K))
    |_,_,_=>False)
   |_,_=>False)
  |_=>False)
 | .store t x y=>XO σ x λσ a=>(match σ.ov y,vV P t with
  | .c (.agg v),mB (n+1,_)=>aB F a (n+1) v λF=>K nS (σ.putO o.dst (.sv .und)) F
  | .c (.tuple _),_=>False
  | .c v,mB (1,_)=>rj F a v λF=>K nS (σ.putO o.dst (.sv .und)) F
  | .any v,mB (1,_)=>ak v/\v.cells= #[v]/\rj F a v λF=>K nS (σ.putO o.dst (.sv .und)) F
  | .vt _,_=>False
  | .und,_=>False
  |w,mB (1,_)=>(match w.val with|some v=>rj F a v λF=>K nS (σ.putO o.dst (.sv .und)) F|none=>False)
  |_,_=>False)
 | .range t x=>(match P.underlying t,σ.ov x with
  |some .string,.c (.string s)=>Xz σ o.dst (.stringIter s 0) (λb=> .ad ⟨b,0,nC⟩) F K
  |some (.map _ _),w=>(match w.val with
   |some v=>aH P (Instr.range t v) F λv F=>∃b:Nat,v=.pointer (mB ⟨b,0,nC⟩)/\K nS (σ.putO o.dst (.sv (.ad ⟨b,0,nC⟩))) F
   |none=>False)
  |_,_=>False)
 | .next x is=>(match (σ.ov x).val with
  |some v=>aH P (Instr.next v is o.type) F λv F=>∃w:Array Value,v=.tuple w/\K nS (σ.putO o.dst (.sv (.vt w))) F
  |none=>False)
 | .makeSlice t x y=>(match (σ.ov x).val,(σ.ov y).val with
  |some u,mB v=>aH P (Instr.makeSlice t u v) F λv F=>∃s:Sl,v=Sl.v s/\K nS (σ.putO o.dst (.sv (.c (Sl.v s)))) F
  |_,_=>False)
 | .makeMap _ nC=>Xz σ o.dst (.map #[] 0) (λb=> .c (.map (mB b))) F K
 | .mapUpdate t x y z=>(match (σ.ov x).val,(σ.ov y).val,(σ.ov z).val with
  |some u,mB v,mB w=>aH P (Instr.mapUpdate t u v w) F λ_ F=>K nS (σ.putO o.dst (.sv .und)) F
  |_,_,_=>False)
 | .insert t x y z=>(match (σ.ov x).val,(σ.ov y).val,(σ.ov z).val with
  |some u,mB v,mB w=>aH P (Instr.mapUpdate t u v w) F λ_ F=>K nS (σ.putO o.dst (.sv .und)) F
  |_,_,_=>False)
 | .call ⟨.builtin b,args,ts⟩=>(match b,args.toList with
  | .append,[x,y]=>(match (σ.ov x).val,(σ.ov y).val with
   |some u,mB v=>aH P (Builtin.append_ ts o.type #[u,v]) F λv F=>∃s:Sl,v=Sl.v s/\K nS (σ.putO o.dst (.sv (.c (Sl.v s)))) F
   |_,_=>False)
  | .copy,[x,y]=>(match (σ.ov x).val,(σ.ov y).val with
   |some u,mB v=>aH P (Builtin.copy_ ts o.type #[u,v]) F λv F=>∃n:Int,v=.int .i64 n/\K nS (σ.putO o.dst (.sv (.c (.int .i64 n)))) F
   |_,_=>False)
  | .delete,[x,y]=>(match (σ.ov x).val,(σ.ov y).val with
   |some u,mB v=>aH P (Builtin.delete_ ts o.type #[u,v]) F λ_ F=>K nS (σ.putO o.dst (.sv .unk)) F
   |_,_=>False)
  |_,_=>False)
 | .call ⟨.value (.func f),args,_⟩=>wI σ args.toList λvs=>y5 (aG P f) (aj P f vs.toArray F λv F=>za P σ o.dst o.type v λσ=>K nS σ F)
 | .call ⟨.value g,args,_⟩=>wI σ args.toList λvs=>(match σ.ov g with
  | .c (.func (.func f) a b)=>y5 (aG P f) (aj P f (a++vs.toArray++b) F λv F=>za P σ o.dst o.type v λσ=>K nS σ F)
  | .any u=>∃(k:Nat) (a b:Array Value),u=.func (.func k) a b/\aG P k=nZ/\aj P k (a++vs.toArray++b) F λv F=>za P σ o.dst o.type v λσ=>K nS σ F
  |_=>False)
 | .defer ⟨.value g,args,_⟩=>wI σ args.toList λvs=>(match σ.ov g with
  | .c (.func (.func f) a b)=>BJ P ⟨.fn (.func f) b,a++vs.toArray⟩/\K nS (σ.putO o.dst (.sv .und)) F
  |_=>False)
 |_=>False
inductive G|go|no|split (i:Nat) (b:SB) (want:Bool)|bad
def Yp (ops:Array Oper) (σ:Sy) (o:Oper):G:=
 match o.guard with
 |none=> .go
 |some (j,want)=>match (ops[j]?).bind (·.dst) with
  |none=> .no
  |some t=>match σ.vw t with
   | .lit b=>(match b==want with|true=> .go|false=> .no)
   | .und=> .no
   | .bool i b=> .split i (.bool b) want
   | .prp i p d=> .split i (.prp p d) want
   |_=> .bad
def ZA (b:SB) (f:Bool->Prop):Prop:=
 match b with
 | .bool b=>(b=nZ->f nZ)/\(b=nS->f nS)
 | .prp p _=>(p->f nZ)/\(¬p->f nS)
 |_=>False
def Zn (P:Program) (o:Oper) (K:Sy->PH->Prop) (σ:Sy) (F:PH):Prop:=
 match Xe o.op with
 |true=>ZD P σ o F λσ v _=>K (σ.putO o.dst v) F
 |false=>ZB P σ o F λ_ σ F=>K σ F
def XQ (P:Program) (n:Nat) (ops:Array Oper) (K:Sy->PH->Prop):List Oper->Sy->PH->Prop
 |[],σ,F=>K σ F
 |o::l,σ,F=>y5 (fq n o.dst) (match Yp ops σ o with
  | .go=>Zn P o (XQ P n ops K l) σ F
  | .no=>XQ P n ops K l (σ.putO o.dst (.sv .und)) F
  | .split i b want=>ZA b λv=>match v==want with
   |true=>Zn P o (XQ P n ops K l) (σ.rf i (.lit v)) F
   |false=>XQ P n ops K l ((σ.rf i (.lit v)).putO o.dst (.sv .und)) F
  | .bad=>False)
abbrev Pn:=List (Nat×(PH->Prop))
def ST (F:PH):Pn->Prop->Prop
 |[],K=>K
 | (_,c)::l,K=>c F/\ST F l K
def uM (ops:Array Oper) (σ:Sy):List Nat->Option (Nat×Oper×G)
 |[]=>nC
 |i::l=>match ops[i]? with
  |none=>nC
  |some o=>match Yp ops σ o with
   | .go=>(match Xe o.op with|true=>mB (i,o,.go)|false=>uM ops σ l)
   |g=>mB (i,o,g)
def SU:List Prop->Prop
 |[]=>False
 |[p]=>p
 |p::l=>p/\SU l
def XP (P:Program) (n:Nat) (ops:Array Oper) (K:Sy->PH->Prop):Nat->Nat->Array Bool->Pn->Sy->PH->Prop
 |0,_,_,_,_,_=>False
 |k+1,fuel,listed,pend,σ,F=>match Region.ready .any ops listed with
  |[]=>K σ F
  |rs=>match fuel with
   |0=>False
   |fuel+1=>match uM ops σ rs with
    |some (i,o,g)=>y5 (Region.noSelect ops && Region.free .any ops listed i && (Region.ready .any ops listed).contains i && fq n o.dst) (match g with
     | .no=>XP P n ops K k fuel (listed.setIfInBounds i nZ) pend (σ.putO o.dst (.sv .und)) F
     | .split j b _=>ZA b λv=>XP P n ops K k (fuel+1) listed pend (σ.rf j (.lit v)) F
     | .go=>ZD P σ o F λσ v ck=>XP P n ops K k fuel (listed.setIfInBounds i nZ) (match ck with|none=>pend|some c=>(i,c)::pend) (σ.putO o.dst v) F
     | .bad=>False)
    |none=>SU (rs.map λi=>match ops[i]? with
     |none=>False
     |some o=>y5 (fq n o.dst) (ZB P σ o F λfl σ F=>
      match fl with
      |true=>XP P n ops K k fuel (listed.setIfInBounds i nZ) (pend.filter λp=> !Oper.waits .any o p.1) σ F
      |false=>ST F (pend.filter λp=> !Oper.waits .any o p.1) (XP P n ops K k fuel (listed.setIfInBounds i nZ) (pend.filter λp=> !Oper.waits .any o p.1) σ F)))
def Tl:List (Nat×Kd)->Type
 |[]=>PH->Prop
 | (_,k)::l=>k.T->Tl l
def Zz (w:VW):(k:Kd)->(k.T->Prop)->Prop
 | .int k,K=>(match w with| .c (.int k' x)=>(match decide (k=k') with|true=>K x|false=>False)|_=>False)
 | .bool,K=>(match w with| .lit b=>K b| .bool _ b=>K b| .prp _ p d=>K (@decide p d)|_=>False)
 | .ptr,K=>(match w with| .ad a=>K (mB a)| .ptr _ p=>K p| .c (.pointer p)=>K p|_=>False)
 | .sl,K=>(match w with| .c (.slice b l c)=>K ⟨b,l,c⟩|_=>False)
 | .str,K=>(match w with| .c (.string s)=>K s|_=>False)
 | .map,K=>(match w with| .c (.map m)=>K m|_=>False)
 | .agg,K=>(match w with| .c (.agg c)=>K c|_=>False)
 | .any,K=>(match w.val with|some v=>K v|none=>False)
def WF (σ:Sy):(l:List (Nat×Kd))->Tl l->PH->Prop
 |[],J,F=>J F
 | (t,k)::l,J,F=>Zz (σ.vw t) k λx=>WF σ l (J x) F
def Zw (f:Sy->PH->Prop):(l:List (Nat×Kd))->Sy->Tl l
 |[],σ=>f σ
 |(t,k)::l,σ=>λx=>Zw f l (σ.put t (k.nv x))
def SW (f:Sy->PH->Prop):(l:List (Nat×Kd))->Tl l->Sy->Prop
 |[],J,σ=>∀F,J F->f σ F
 |(t,k)::l,J,σ=>∀x:k.T,SW f l (J x) (σ.put t (k.nv x))
def SX:(l:List (Nat×Kd))->Tl l->Tl l->Prop
 |[],J,Y=>∀F,J F->Y F
 |(_,k)::l,J,Y=>∀x:k.T,SX l (J x) (Y x)
def ZM:(l:List (Nat×Kd))->(Nat->Tl l)->Nat->Tl l
 |[],I,m=>λF=>∃m',m'<m/\I m' F
 | (_,_)::l,I,m=>λx=>ZM l (λm'=>I m' x) m
inductive iV|N|T (a b:iV)|J (cut:Bool) (l:List (Nat×Kd)) (a b:iV)|L (l:List (Nat×Kd)) (a:iV)
abbrev iV.qa8 (h:iV):iV:=.T .N h
def iV.fst:iV->iV
 | .T a _=>a| .J _ _ a _=>a| .L _ a=>a| .N=> .N
def iV.snd:iV->iV
 | .T _ b=>b| .J _ _ _ b=>b|_=> .N
def iV.jn:iV->Option (Bool×List (Nat×Kd))
 | .J c l _ _=>mB (c,l)|_=>nC
def iV.lv:iV->List (Nat×Kd)
 | .L l _=>l|_=>[]
def J8:List Oper->List Nat
 |[]=>[]
 |o::l=>match o.dst with|some d=>d::J8 l|none=>J8 l
def iW:Code->List Nat
 | .region _ ops _=>J8 ops.toList
 | .seq a b=>iW a++iW b
 | .cond _ a b=>iW a++iW b
 | .block _ c=>iW c
 | .loop c=>iW c
 | .scope c=>iW c
 |_=>[]
abbrev CK:=Exit->Sy->PH->Prop
def YM (f:Sy->PH->Prop) (K:CK):CK
 | .normal,σ,F=>f σ F
 |x,σ,F=>K x σ F
def Z6 (id:Nat) (K:CK):CK
 | .exit i,σ,F=>bif Nat.beq i id then K .normal σ F else K (.exit i) σ F
 |x,σ,F=>K x σ F
def Z5 (K:CK):CK
 | .goto _,_,_=>False
 |x,σ,F=>K x σ F
def sx (P:Program) (n:Nat):Code->iV->CK->Sy->PH->Prop
 | .skip,_,K,σ,F=>K .normal σ F
 | .label _,_,K,σ,F=>K .normal σ F
 | .scope c,h,K,σ,F=>sx P n c h (Z5 K) σ F
 | .ret,_,K,σ,F=>K .ret σ F
 | .exit i,_,K,σ,F=>K (.exit i) σ F
 | .region _ ops nS,_,K,σ,F=>XQ P n ops (K .normal) ops.toList σ F
 | .region _ ops nZ,_,K,σ,F=>y5 (P.follows .mixedOrders) (XP P n ops (K .normal) (3*ops.size+1) ops.size (Array.replicate ops.size nS) [] σ F)
 | .seq a b,h,K,σ,F=>(match h.jn with
  |none=>sx P n a h.fst (YM (sx P n b h.snd K) K) σ F
  |some (nS,l)=>sx P n a h.fst (YM (λσ' F=>WF σ' l (Zw (sx P n b h.snd K) l (σ.hav (iW a))) F) K) σ F
  |some (nZ,l)=>∃J:Tl l,SX l J (Zw (sx P n b h.snd K) l (σ.hav (iW a)))/\sx P n a h.fst (YM (λσ' F=>WF σ' l J F) K) σ F)
 | .cond c a b,h,K,σ,F=>(match σ.ov c with
  | .lit nZ=>sx P n a h.fst K σ F
  | .lit nS=>sx P n b h.snd K σ F
  | .bool _ t=>(t=nZ->sx P n a h.fst K σ F)/\(t=nS->sx P n b h.snd K σ F)
  | .prp _ p _=>(p->sx P n a h.fst K σ F)/\(¬p->sx P n b h.snd K σ F)
  |_=>False)
 | .block id c,h,K,σ,F=>sx P n c h (Z6 id K) σ F
 | .loop c,h,K,σ,F=>∃(I:Nat->Tl h.lv) (m:Nat),WF σ h.lv (I m) F/\∀m,SW (sx P n c h.fst (YM (λσ' F=>WF σ' h.lv (ZM h.lv I m) F) K)) h.lv (I m) (σ.hav (iW c))
 |_,_,_,_,_=>False
def sG (P:Program) (σ:Sy):List ResultVar->PH->(List Value->Prop)->Prop
 |[],_,K=>K []
 | .tmp t::l,F,K=>match (σ.vw t).val with|some v=>sG P σ l F (λvs=>K (v::vs))|none=>False
 | .cell x t::l,F,K=>match σ.vw x with
  | .ad a=>(match P.underlying t with
   |none=>False
   |some d=>match XS d with
    | .agg=>(match vV P t with|some (n,_)=>∃v:Array Value,v.size=n/\F.row a v/\sG P σ l F (λvs=>K (.agg v::vs))|none=>False)
    |k=>∃x:k.T,F.cell a=mB (k.v x)/\sG P σ l F (λvs=>K (k.v x::vs)))
  |_=>False
def Xf:List Value->Value
 |[v]=>v
 |vs=> .tuple vs.toArray
def Xg (P:Program) (fn:Func) (R:Value->PH->Prop):CK
 | .normal,σ,F| .ret,σ,F=>y5 (Nat.ble fn.results.size 5) (sG P σ fn.results.toList F λvs=>R (Xf vs) F)
 |_,_,_=>False
def Ew (P:Program):Nat->List TypeId->List Value->Sy->Sy
 |_,_,[],σ=>σ
 |i,[],v::vs,σ=>Ew P (i+1) [] vs (σ.put i (Za .ptr v))
 |i,t::ts,v::vs,σ=>Ew P (i+1) ts vs (σ.put i (Za (kd P t) v))
def ZC (P:Program) (k:Nat) (h:iV) (args:List Value) (R:Value->PH->Prop) (F:PH):Prop:=
 match P.funcs[k]? with
 |none=>False
 |some fn=>match fn.body with
  |none=>False
  |some c=>y5 (Nat.ble args.length fn.ntmps) (sx P fn.ntmps c h (Xg P fn R) (Ew P 0 fn.params.toList args ⟨λ_=> .unk,λ_=>nC,0⟩) F)
end Rx
abbrev Γ:=Array Value
abbrev Δ:=List Nat
abbrev Θ:=Option Addr
abbrev Ξ:=List Value
abbrev Φ:=List Int
abbrev Ψ:=PH->Prop
abbrev Ω:=Int->PH->Prop
abbrev ξ:=Value
abbrev ο:=ByteArray
end Go.Proofs.YteilolbbgieadaaGreatDoor
namespace Go.Proofs.YteilolbbgieadaaGreatDoor.Rx
open Go
def V4 (T:Nat->Option SB):SV->Value->Prop
 | .c v,x=>x=v| .any v,x=>x=v| .ad a,x=>x=.pointer (mB a)| .lit b,x=>x=.bool b| .vt w,x=>x=.tuple w| .und,x=>x=undef
 | .ref i,x=>∃b,T i=mB b/\x=b.v
 | .unk,_=>True
structure Rel (σ:Sy) (E:En):Prop where
 val:∀t,V4 σ.T (σ.S t) (E t)
 top:∀j,σ.n<=j->σ.T j=nC
def iX (T:Nat->Option SB):NV->Value->Prop
 | .sv s,v=>V4 T s v
 | .nb b,v=>v=b.v
theorem PS {T:Nat->Option SB} {s:SV} {x v:Value} (h:V4 T s x) (g:(s.vw T).val=mB v):x=v:=by
 cases s with
 |ref i=>obtain ⟨b,r,rfl⟩:=h;simp only [SV.vw,r] at g;cases b<;>simp_all [SB.vw,VW.val,SB.v]
 |unk=>simp [SV.vw,VW.val] at g
 |_=>simp_all [SV.vw,VW.val,V4]
section
variable {P:Program} {σ:Sy} {E:En} {F:PH} {x y:Operand} {o:Oper}
theorem SY {T:Nat->Option SB} (v:Value):V4 T (Xd v) v:=by cases v<;>rfl
theorem uN (h:Rel σ E) (x:Operand):V4 σ.T (σ.cp x) (ev E x):=by
 cases x with
 |tmp t=>exact h.val t
 |const v=>exact SY v
 |global g=>rfl
 |func f=>rfl
theorem ba (h:Rel σ E) {w:VW} {v:Value} (r:σ.ov x=w) (g:w.val=mB v):ev E x=v:=PS (uN h x) (by rw [<- r] at g;exact g)
theorem vm (h:Rel σ E) {v:Value} (g:σ.ov x=.c v):ev E x=v:=ba h g rfl
theorem Nk {i:Nat} {p:Option Addr} (g:σ.ov x=.ptr i p):σ.T i=mB (.ptr p):=by
 unfold Sy.ov at g;cases hs:σ.cp x<;>simp only [hs,SV.vw] at g<;>try cases g
 rename_i j;cases hb:σ.T j with
 |none=>simp [hb] at g
 |some b=>cases b<;>simp only [hb,SB.vw] at g<;>cases g;exact hb
theorem J9 {i t:Nat} {b:Bool} (g:σ.vw t=.bool i b):σ.T i=mB (.bool b):=by
 unfold Sy.vw at g;cases hs:σ.S t<;>simp only [hs,SV.vw] at g<;>try cases g
 rename_i j;cases hb:σ.T j with
 |none=>simp [hb] at g
 |some b=>cases b<;>simp only [hb,SB.vw] at g<;>cases g;exact hb
theorem Nl {i t:Nat} {p:Prop} {d:Decidable p} (g:σ.vw t=.prp i p d):σ.T i=mB (.prp p d):=by
 unfold Sy.vw at g;cases hs:σ.S t<;>simp only [hs,SV.vw] at g<;>try cases g
 rename_i j;cases hb:σ.T j with
 |none=>simp [hb] at g
 |some b=>cases b<;>simp only [hb,SB.vw] at g<;>cases g;exact hb
theorem qk {α:Type} (f:Nat->α) (d:Nat) (v:α):up f d v d=v:=by simp [up]
theorem uO {α:Type} (f:Nat->α) {d t:Nat} (v:α) (h:¬t=d):up f d v t=f t:=by simp only [up,kX h];rfl
theorem Rel.put (h:Rel σ E) {d:Nat} {nv:NV} {v:Value} (A:iX σ.T nv v):Rel (σ.put d nv) (upd E d v):=by
 cases nv with
 |sv s=>
  refine ⟨λt=> ?_,h.top⟩;by_cases g:t=d
  ·subst g;show V4 _ (up _ _ _ t) (upd E t v t);rw [qk,show upd E t v t=v by simp [upd]];exact A
  ·show V4 _ (up _ _ _ t) (upd E d v t);rw [uO _ _ g];simp only [upd,kX g];exact h.val t
 |nb b=>
  have key:∀s x,V4 σ.T s x->V4 (up σ.T σ.n (mB b)) s x:=by
   intro s x w;cases s with
   |ref i=>obtain ⟨C,r,B⟩:=w;refine ⟨C,?_,B⟩;rw [uO _ _ (λe=> ?_)];exact r;rw [e,h.top _ (tI _)] at r;cases r
   |_=>exact w
  refine ⟨λt=> ?_,λj D=> ?_⟩
  ·by_cases g:t=d
   ·subst g;show V4 _ (up _ _ _ t) (upd E t v t);rw [qk];exact ⟨b,qk ..,(show upd E t v t=v by simp [upd]).trans A⟩
   ·show V4 _ (up _ _ _ t) (upd E d v t);rw [uO _ _ g];simp only [upd,kX g];exact key _ _ (h.val t)
  ·have G:σ.n+1<=j:=D;show up σ.T σ.n (mB b) j=nC;rw [uO _ _ (by omega)];exact h.top _ (by omega)
theorem Rel.putO (h:Rel σ E) {d:Option Tmp} {nv:NV} {v:Value} (g:iX σ.T nv v):Rel (σ.putO d nv) (cM E d v):=by
 cases d with
 |none=>exact h
 |some d=>exact h.put g
theorem Rel.rf (h:Rel σ E) {i:Nat} {w b:SB} (hi:σ.T i=mB w) (C:w.v=b.v):Rel (σ.rf i b) E:=by
 refine ⟨λt=> ?_,λj B=> ?_⟩
 ·have:=h.val t;show V4 (up σ.T i (mB b)) (σ.S t) (E t);cases hs:σ.S t with
  |ref j=>
   rw [hs] at this;obtain ⟨D,r,A⟩:=this;by_cases g:j=i
   ·subst g;rw [hi] at r;cases r;exact ⟨b,qk ..,A.trans C⟩
   ·exact ⟨D,by rw [uO _ _ g];exact r,A⟩
  |_=>rw [hs] at this;exact this
 ·show up σ.T i (mB b) j=nC;have:¬j=i:=λe=>by subst e;rw [h.top _ B] at hi;cases hi
  rw [uO _ _ this];exact h.top _ B
theorem sH {T:Nat->Option SB} (k:Kd) (x:k.T):iX T (k.nv x) (k.v x):=by cases k<;>rfl
theorem Ka {T:Nat->Option SB} (k:Kd) (v:Value):iX T (Za k v) v:=by cases k<;>first|rfl|(cases v<;>first|rfl|exact True.intro)
theorem lj {K:Sy->Addr->Prop} (h:XO σ x K) (r:Rel σ E):∃w a,Rel w E/\ev E x=.pointer (mB a)/\K w a:=by
 unfold XO at h;split at h
 ·rename_i a g;exact ⟨σ,a,r,ba r g rfl,h⟩
 ·rename_i i p g;obtain ⟨a,rfl,h⟩:=h;exact ⟨σ.rf i (.ad a),a,r.rf (Nk g) rfl,ba r g rfl,h⟩
 ·rename_i a g;exact ⟨σ,a,r,ba r g rfl,h⟩
 ·exact h.elim
theorem jN (r:Rel σ E):∀(l:List Operand) {K:List Value->Prop},wI σ l K->∃us,l.map (ev E)=us/\K us
 |[],_,h=>⟨[],rfl,h⟩
 |x::l,K,h=>by
  unfold wI at h;split at h
  ·rename_i v A;obtain ⟨us,w,g⟩:=jN r l h;exact ⟨v::us,by rw [xV,w,ba r rfl A],g⟩
  ·exact h.elim
def BY (P:Program) (E:En) (F:PH) (o:Oper) (K:RK):Prop:=
 ∃σ nv ck v,RD P E F o v/\Rel σ E/\iX σ.T nv v/\(match ck with|none=>∀F,RD P E F o v|some c=>c F/\∀F':PH,c F'->RD P E F' o v)/\K σ nv ck
theorem BY.pure {K:RK} {nv:NV} {v:Value} (g:∀F,RD P E F o v) (r:Rel σ E) (h:K σ nv nC) (w:iX σ.T nv v):BY P E F o K:=⟨σ,nv,nC,v,g F,r,w,g,h⟩
theorem BY.chk {K:RK} {nv:NV} {v:Value} {c:PH->Prop} (w:c F) (A:∀g,c g->RD P E g o v) (r:Rel σ E) (h:K σ nv (mB c)) (B:iX σ.T nv v):BY P E F o K:=⟨σ,nv,mB c,v,A F w,r,B,⟨w,A⟩,h⟩
def Gh (P:Program) (E:En) (o:Oper) (K:NV->Prop):Prop:=∃nv v,(∀F,RD P E F o v)/\(∀T,iX T nv v)/\K nv
theorem Gh.mk {K:NV->Prop} {nv:NV} {v:Value} (r:∀F,RD P E F o v) (h:K nv) (g:∀T,iX T nv v:=by exact λ_=>rfl):Gh P E o K:=⟨nv,v,r,g,h⟩
theorem SZ {op:BinOp} {k:IntKind} {a b:Int} {t C:TypeId} {A:Bool} {K:NV->Prop} (h:ZP op k a b A K) (r:o.op=.binOp op t x y C) (g:ev E x=.int k a) (w:ev E y=.int k b):Gh P E o K:=by
 cases op<;>simp only [ZP] at h
 case add=>exact .mk (λF=>qdN r g w) h
 case sub=>exact .mk (λF=>qdO r g w) h
 case mul=>exact .mk (λF=>qdP r g w) h
 case quo=>
  cases A
  ·exact .mk (λF=>PB r g w h.1) h.2
  ·simp only at h;split at h
   ·rename_i B;exact .mk (λF=>PB r g w (ζ B)) h
   ·exact h.elim
 case rem=>
  cases A
  ·exact .mk (λF=>PC r g w h.1) h.2
  ·simp only at h;split at h
   ·rename_i B;exact .mk (λF=>PC r g w (ζ B)) h
   ·exact h.elim
 case and=>exact .mk (λF=>qdQ r g w) h
 case or=>exact .mk (λF=>qgj r g w) h
 case xor=>exact .mk (λF=>qdR r g w) h
 case andNot=>exact .mk (λF=>JK r g w) h
 case lss=>exact .mk (λF=>qdS r g w) h
 case leq=>exact .mk (λF=>qdT r g w) h
 case gtr=>exact .mk (λF=>qdU r g w) h
 case geq=>exact .mk (λF=>qdV r g w) h
 case eql=>exact .mk (λF=>qdW r g w) h
 case neq=>exact .mk (v:=.bool (decide (a≠b))) (λF=>by
  have:=qdX (P:=P) (F:=F) r g w;rw [show (a !=b)=decide (a≠b) by rw [wR];simp] at this
  exact this) h
theorem S3 {op:BinOp} {k k':IntKind} {a b:Int} {t C:TypeId} {g:Bool} {K:NV->Prop} (h:ZO op k a b g K) (w:o.op=.binOp op t x y C) (r:ev E x=.int k a) (A:ev E y=.int k' b):Gh P E o K:=by
 cases op<;>simp only [ZO] at h
 case shl=>
  cases g
  ·exact .mk (λF=>PD w r A h.1) h.2
  ·simp only at h;split at h
   ·rename_i B;exact .mk (λF=>PD w r A (ζ B)) h
   ·exact h.elim
 case shr=>
  cases g
  ·exact .mk (λF=>PE w r A h.1) h.2
  ·simp only at h;split at h
   ·rename_i B;exact .mk (λF=>PE w r A (ζ B)) h
   ·exact h.elim
theorem wL {w:VW} {b:Bool} (h:w.tv=mB b):w.val=mB (.bool b):=by cases w<;>simp [VW.tv] at h<;>subst h<;>rfl
theorem jO {m:Nat} {t:TypeId} {u:Value} {b:Bool} {F:PH} {g w:Array TypeId} {v:Bool} (r:P.underlying t=mB (.func g w v)) (h:wH u b):s9 P (Op.equalIn (m+1) t u .nilFunc) F b:=by simp only [Op.equalIn,am];refine ⟨_,(aA r _).2 rfl,?_⟩;rcases h with ⟨rfl,rfl⟩|⟨⟨f,x,y,rfl⟩,rfl⟩<;>rfl
theorem Nm {t D:TypeId} {u:Value} {b:Bool} {F:PH} {C G:Array TypeId} {v:Bool} (r:o.op=.binOp .eql t x y D) (g:ev E x=u) (B:ev E y=.nilFunc) (A:P.underlying t=mB (.func C G v)) (h:wH u b):RD P E F o (.bool b):=by
 have w:=h;rcases h with ⟨rfl,rfl⟩|⟨⟨f,z,c,rfl⟩,rfl⟩
 ·exact jI r g B (bj rfl) (jO A w) rfl
 ·exact jI r g B (bj rfl) (jO A w) rfl
theorem Nn {t D:TypeId} {u:Value} {b:Bool} {F:PH} {C G:Array TypeId} {v:Bool} (r:o.op=.binOp .neq t x y D) (g:ev E x=u) (B:ev E y=.nilFunc) (A:P.underlying t=mB (.func C G v)) (h:wH u b):RD P E F o (.bool (!b)):=by
 have w:=h;rcases h with ⟨rfl,rfl⟩|⟨⟨f,z,c,rfl⟩,rfl⟩
 ·exact jJ r g B (bj rfl) (jO A w) rfl
 ·exact jJ r g B (bj rfl) (jO A w) rfl
theorem Kb {op:BinOp} {t J:TypeId} {K:NV->Prop} (h:J7 P σ op t x y K) (r:Rel σ E) (B:o.op=.binOp op t x y J):Gh P E o K:=by
 unfold J7 at h;split at h
 ·rename_i k a L b g w;split at h
  ·exact S3 h B (vm r g) (vm r w)
  ·split at h
   ·rename_i I;obtain rfl:=ζ I;exact SZ h B (vm r g) (vm r w)
   ·exact h.elim
 ·rename_i c d g w;split at h
  ·exact .mk (λF=>SO B (vm r g) (vm r w) h.1) h.2
  ·exact .mk (λF=>SP B (vm r g) (vm r w)) h
  ·exact .mk (λF=>SQ B (vm r g) (vm r w)) h
  ·exact .mk (λF=>SD B (vm r g) (vm r w)) h
  ·exact .mk (λF=>SE B (vm r g) (vm r w)) h
  ·exact h.elim
 ·rename_i a g w;split at h
  ·rename_i A;exact .mk (λF=>yW B (ba r g rfl) (vm r w) A) h
  ·rename_i A;exact .mk (λF=>yX B (ba r g rfl) (vm r w) A) h
  ·exact h.elim
 ·rename_i i p g w;split at h
  ·rename_i A;exact .mk (λF=>yW B (ba r g rfl) (vm r w) A) h
  ·rename_i A;exact .mk (λF=>yX B (ba r g rfl) (vm r w) A) h
  ·exact h.elim
 ·rename_i b l c g w;split at h
  ·rename_i A;exact .mk (λF=>BP (s:=⟨b,l,c⟩) B (vm r g) (vm r w) A) h
  ·rename_i A;exact .mk (λF=>BQ (s:=⟨b,l,c⟩) B (vm r g) (vm r w) A) h
  ·exact h.elim
 ·rename_i c d g w;split at h
  ·rename_i A;obtain ⟨v,D,C⟩:=h;exact .mk (λF=>Nf B (vm r g) (vm r w) A (D F)) C
  ·rename_i A;obtain ⟨v,D,C⟩:=h;exact .mk (λF=>Ng B (vm r g) (vm r w) A (D F)) C
  ·exact h.elim
 ·rename_i u g w;split at h
  ·rename_i A;obtain ⟨v,D,C⟩:=h;exact .mk (λF=>Nm B (ba r g rfl) (vm r w) A D) C
  ·rename_i A;obtain ⟨v,D,C⟩:=h;exact .mk (λF=>Nn B (ba r g rfl) (vm r w) A D) C
  ·exact h.elim
 ·split at h
  ·rename_i a b A G H;split at h
   ·exact .mk (λF=>SA B (ba r rfl (wL G)) (ba r rfl (wL H)) A) h
   ·exact .mk (λF=>SC B (ba r rfl (wL G)) (ba r rfl (wL H)) A) h
   ·exact h.elim
  ·exact h.elim
end
section
variable {P:Program} {σ:Sy} {E:En} {F:PH} {x y:Operand} {o:Oper}
theorem Xh {α g:Type} {f:α->g} {l:List α} {a b:g} (h:l.map f=[a,b]):∃x y,l=[x,y]/\f x=a/\f y=b:=by
 rcases l with _|⟨x,_|⟨y,_|⟨z,l⟩⟩⟩<;>simp at h
 exact ⟨x,y,rfl,h⟩
theorem Xi {α g:Type} {f:α->g} {l:List α} {a b c:g} (h:l.map f=[a,b,c]):∃x y z,l=[x,y,z]/\f x=a/\f y=b/\f z=c:=by
 rcases l with _|⟨x,_|⟨y,_|⟨z,_|⟨u,l⟩⟩⟩⟩<;>simp at h
 exact ⟨x,y,z,rfl,h⟩
theorem eA {b:Bool} {K:Prop} (h:y5 b K):b=nZ/\K:=by cases b;exact h.elim;exact ⟨rfl,h⟩
theorem wM {d:TypeDesc} (h:XS d=.agg):kY d=nZ:=by cases d<;>simp [XS] at h<;>rfl
theorem ql {d:TypeDesc} (h:XS d≠.agg):kY d=nS:=by cases d<;>first|rfl|exact absurd rfl h
theorem No {t:TypeId} {a:Addr} {K:NV->(PH->Prop)->Prop} (h:SR P t a F K) (r:Rel σ E) (D:o.op=.load t x) (C:ev E x=.pointer (mB a)):
  ∃nv v c,c F/\(∀g:PH,c g->RD P E g o v)/\(∀T,iX T nv v)/\K nv c:=by
 unfold SR at h;split at h
 ·exact h.elim
 ·rename_i d hd;split at h
  ·rename_i w;split at h
   ·rename_i n b G;obtain ⟨v,rfl,A,h⟩:=h;exact ⟨.sv (.c (.agg v)),.agg v,λF=>F.row a v,A,λg A=>M6 D C hd (wM w) G A,λ_=>rfl,h⟩
   ·exact h.elim
  ·rename_i w;obtain ⟨v,B,h⟩:=h;exact ⟨_,_,_,B,λg B=>M5 D C hd (ql w) B,λ_=>sH _ v,h⟩
theorem iA {y:Option Operand} {g:Nat} {K:Nat->Prop} (h:wK σ y g K) (r:Rel σ E):∃l,dn (y.map (ev E)) g l/\K l:=by
 unfold wK at h;split at h
 ·exact ⟨g,wz,h⟩
 ·rename_i y;split at h
  ·rename_i k i w;split at h
   ·split at h
    ·rename_i hi;exact ⟨_,PI (vm r w) (ζ hi),h⟩
    ·exact h.elim
   ·exact ⟨_,PI (vm r w) h.1,h.2⟩
  ·exact h.elim
theorem sI {g:Nat->Option (Nat×Nat)} {n:Nat} (r:Rel σ E):∀(l:List (Nat×Operand)) (cs:Array Value) {K:Array Value->Prop},cs.size=n->XD σ g n l cs K->
  ∃res,Instr.fill g cs (l.map λp=>(p.1,ev E p.2))=mB res/\K res
 |[],cs,K,_,h=>⟨cs,rfl,h⟩
 | (i,x)::l,cs,K,hn,h=>by
  unfold XD at h;split at h
  ·exact h.elim
  ·rename_i G s N;have one:∀{v:Value},ev E x=v->v.cells= #[v]->Nat.beq s 1=nZ->Nat.blt G n=nZ->XD σ g n l (cs.setIfInBounds G v) K->
     ∃res,Instr.fill g cs (((i,x)::l).map λp=>(p.1,ev E p.2))=mB res/\K res:=by
    clear h;intro v O Q J I h;obtain rfl:=YQ J;obtain ⟨res,D,C⟩:=sI r l _ (by simpa using hn) h;refine ⟨res,?_,C⟩;rw [xV];show Instr.fill g cs ((i,ev E x)::_)=_;rw [O];exact PF N Q (by rw [hn];exact I) D
   split at h
   ·rename_i c A;split at h
    ·rename_i I;obtain ⟨J,h⟩:=h;obtain ⟨res,D,C⟩:=sI r l _ (by rw [dG];exact hn) h;refine ⟨res,?_,C⟩;rw [xV];show Instr.fill g cs ((i,ev E x)::_)=_;rw [vm r A];exact PG N J (by rw [hn];exact I) D
    ·exact h.elim
   ·rename_i v B A;split at h
    ·rename_i D C;exact one (vm r A) (by cases v<;>first|rfl|exact absurd rfl (B _)) D C h
    ·exact h.elim
   ·exact h.elim
   ·rename_i w B L M;split at h
    ·rename_i v D C H;refine one (ba r rfl H) ?_ D C h;cases A:σ.ov x<;>rw [A] at H<;>simp only [VW.val] at H<;>first|(cases H;done)|(cases H;rfl)|(exact absurd A (B _))|(exact absurd A (L _))|exact absurd A (M _)
    ·exact h.elim
variable {K:RK}
theorem BY.of (r:Rel σ E) (h:Gh P E o λv=>K σ v nC):BY P E F o K:=by obtain ⟨nv,v,w,g,A⟩:=h;exact .pure w r A (g _)
theorem Kc (h:ZD P σ o F K) (r:Rel σ E):BY P E F o K:=by
 cases ho:o.op<;>simp only [ZD,ho] at h<;>try exact h.elim
 case move x=>exact .pure (λF=>Sw ho rfl) r h (uN r x)
 case assign x=>exact .pure (λF=>JJ ho rfl) r h (uN r x)
 case pick c a b=>
  split at h
  ·rename_i hc;exact .pure (λF=>wu ho (ba r hc rfl) (λ_=>rfl) (λh=>by cases h)) r h (uN r a)
  ·rename_i hc;exact .pure (λF=>wu ho (ba r hc rfl) (λh=>by cases h) (λ_=>rfl)) r h (uN r b)
  ·exact h.elim
 case nilCheck x=>
  split at h
  ·rename_i W;refine .pure (λF=>qh2 ho (vm r W)) r h ?_;show V4 _ _ _;rw [<- vm r W];exact uN r x
  ·obtain ⟨L,a,J,g,h⟩:=lj h r;exact .pure (λF=>BN ho g) J h rfl
 case extract x i=>
  split at h
  ·rename_i vs W;split at h
   ·rename_i v M;exact .pure (λF=>uG ho (vm r W) M) r h (Ka _ v)
   ·exact h.elim
  ·rename_i w W;obtain ⟨v,M,h⟩:=h;exact .pure (λF=>uG ho (ba r W rfl) M) r h (sH _ v)
  ·exact h.elim
 case fieldAddr t x i=>
  split at h
  ·rename_i fs B;split at h
   ·rename_i f hf;split at h
    ·rename_i s b D;obtain ⟨L,a,J,g,h⟩:=lj h r;exact .pure (λF=>qh3 ho g B hf D (by omega)) J h rfl
    ·exact h.elim
   ·exact h.elim
  ·exact h.elim
 case load t x=>
  obtain ⟨L,a,J,g,h⟩:=lj h r;obtain ⟨nv,v,c,A,G,Z,h⟩:=No h J ho g;exact .chk A G J h (Z _)
 case indexAddr t x y=>
  split at h
  ·rename_i k i e H B;split at h
   ·rename_i a5 len cap s b g D;obtain ⟨a,rfl,A,G,h⟩:=h;exact .pure (λF=>qhk ho (vm r g) (vm r H) B D A (by exact_mod_cast G)) r h rfl
   ·exact h.elim
  ·rename_i k i n e H B;split at h
   ·rename_i s b D;obtain ⟨L,a,J,g,A,G,h⟩:=lj h r;exact .pure (λF=>qhl ho g (vm r H) B D A (by exact_mod_cast G)) J h rfl
   ·exact h.elim
  ·exact h.elim
 case index t x y=>
  split at h
  ·rename_i s k i g H B;obtain ⟨A,G,Z,v,rfl,h⟩:=h;exact .pure (λF=>BR ho (vm r g) (vm r H) B A (by exact_mod_cast G)) r h rfl
  ·rename_i cs k i n e g H B;split at h
   ·rename_i d s b hd D;split at h
    ·exact h.elim
    ·rename_i I;obtain ⟨A,G,v,M,h⟩:=h;exact .pure (λF=>qh4 ho (vm r g) (vm r H) B D hd (ql I) A (by exact_mod_cast G) M) r h (sH _ v)
   ·exact h.elim
  ·exact h.elim
 case field t x i=>
  split at h
  ·rename_i cs fs g B;split at h
   ·rename_i f hf;split at h
    ·rename_i d s b hd D;split at h
     ·rename_i I;exact .pure (λF=>JO ho (vm r g) B hf hd (wM I) D) r h rfl
     ·rename_i I;obtain ⟨v,M,h⟩:=h;exact .pure (λF=>JN ho (vm r g) B hf hd (ql I) M) r h (sH _ v)
    ·exact h.elim
   ·exact h.elim
  ·exact h.elim
 case binOp op t x y t'=>exact .of r (Kb h r ho)
 case unOp op t x=>
  split at h
  ·rename_i b g;exact .pure (λF=>JL ho (ba r g rfl)) r h rfl
  ·rename_i i b g;exact .pure (λF=>JL ho (ba r g rfl)) r h rfl
  ·rename_i i p d g;refine .pure (v:=.bool (@decide (¬p) (@instDecidableNot p d))) (λF=> ?_) r h rfl;have:=JL (P:=P) (F:=F) ho (ba r g rfl);rw [show (!@decide p d)= @decide (¬p) (@instDecidableNot p d) by cases d<;>rfl] at this;exact this
  ·rename_i k a g;exact .pure (λF=>qdY ho (vm r g)) r h rfl
  ·exact h.elim
 case convert t t' x=>
  split at h
  ·rename_i k a d Y g B U;exact .pure (λF=>FY ho (vm r g) B U) r h rfl
  ·rename_i b l c e g B U;split at h
   ·rename_i he;obtain ⟨s,X,h⟩:=h;exact .chk X (λF' X=>J5 ho (vm r g) B U he ⟨_,_,_,rfl⟩ X) r h rfl
   ·exact h.elim
  ·exact h.elim
 case slice t x lo hi mx=>
  split at h
  ·rename_i e B;split at h
   ·rename_i b len cap sz z g D;obtain ⟨l,V,h⟩:=iA h r;obtain ⟨u,N,A,G,h⟩:=iA h r;exact .pure (λF=>Gb (s:=⟨b,len,cap⟩) ho (vm r g) B D V N A G) r h rfl
   ·exact h.elim
  ·rename_i B;split at h
   ·rename_i s g;obtain ⟨l,V,h⟩:=iA h r;obtain ⟨u,N,A,G,h⟩:=iA h r;exact .pure (λF=>BT ho (vm r g) B V N A G) r h rfl
   ·exact h.elim
  ·rename_i n e B;split at h
   ·rename_i sz z D;obtain ⟨L,a,J,g,h⟩:=lj h r;exact .pure (λF=>uK ho g B D wz wz (yM _) (tI _)) J h rfl
   ·rename_i sz z D a6;obtain ⟨L,a,J,g,h⟩:=lj h r;obtain ⟨l,V,h⟩:=iA h J;obtain ⟨u,N,A,G,h⟩:=iA h J;exact .pure (λF=>uK ho g B D V N A G) J h rfl
   ·exact h.elim
  ·rename_i e m B;split at h
   ·rename_i b len cap sz z k i Y m' g D R hm;obtain ⟨l,V,h0,a4,A,G,Z,h⟩:=iA h r;cases hi with
    |none=>simp at R
    |some hi=>simp only [VF,Option.some.injEq] at R;exact .pure (λF=>BS (s:=⟨b,len,cap⟩) ho (vm r g) B D V (vm r R) (vm r hm) h0 a4 A G Z) r h rfl
   ·exact h.elim
  ·exact h.elim
 case build t parts=>
  split at h
  ·rename_i fs z B D;obtain ⟨I,h⟩:=eA h;obtain ⟨res,A,h⟩:=sI r _ _ rfl h;exact .pure (λF=>qhm ho B D I (by simp) A) r h rfl
  ·rename_i n e z B D;split at h
   ·rename_i s b X;obtain ⟨res,A,h⟩:=sI r _ _ rfl h;exact .pure (λF=>qhK ho B D X (by simp) A) r h rfl
   ·exact h.elim
  ·exact h.elim
 case makeFunc fn first cap=>
  cases fn<;>simp only at h<;>try exact h.elim
  obtain ⟨us,A,h⟩:=jN r _ h;obtain ⟨vs,G,h⟩:=jN r _ h;have a2:first.map (ev E)=us.toArray:=by rw [<- A,<- Array.toList_map,Array.toArray_toList]
  have a3:cap.map (ev E)=vs.toArray:=by rw [<- G,<- Array.toList_map,Array.toArray_toList]
  exact .pure (λF=>BO ho a2 a3) r h rfl
 case lookup t x y ok=>
  split at h
  ·rename_i u v kt e N M B;split at h
   ·obtain ⟨q,b,A,h⟩:=h;exact .chk A (λF' A=>y7 ho (ba r rfl N) (ba r rfl M) A) r h rfl
   ·obtain ⟨q,A,h⟩:=h;exact .chk A (λF' A=>y7 ho (ba r rfl N) (ba r rfl M) A) r h (sH _ q)
  ·exact h.elim
 case entry x=>
  split at h
  ·rename_i u N;obtain ⟨w,A,h⟩:=h;exact .chk A (λF' A=>Nh ho (ba r rfl N) A) r h rfl
  ·exact h.elim
 case call c=>
  obtain ⟨a0,O,ts⟩:=c;obtain ⟨O⟩:=O;obtain ⟨ts⟩:=ts;cases a0<;>simp only at h<;>try exact h.elim
  rename_i b;split at h
  ·rename_i bs l cp t C;obtain ⟨x,rfl,g⟩:=Zf.1 C;split at h
   ·rename_i B;exact .pure (λF=>M3 (s:=⟨bs,l,cp⟩) ho (vm r g) B) r h rfl
   ·exact h.elim
  ·rename_i s t C;obtain ⟨x,rfl,g⟩:=Zf.1 C;split at h
   ·rename_i B;exact .pure (λF=>JM ho (vm r g) B) r h rfl
   ·exact h.elim
  ·rename_i m t C;obtain ⟨x,rfl,g⟩:=Zf.1 C;obtain ⟨v,A,h⟩:=h;exact .chk A (λF' A=>J6 ho (vm r g) A) r h rfl
  ·rename_i bs l cp t C;obtain ⟨x,rfl,g⟩:=Zf.1 C;split at h
   ·rename_i B;exact .pure (λF=>M4 (s:=⟨bs,l,cp⟩) ho (vm r g) B) r h rfl
   ·exact h.elim
  ·rename_i k a Y b' C;obtain ⟨x,y,rfl,g,H⟩:=Xh C;obtain ⟨I,Q⟩:=eA h;obtain rfl:=ζ I;exact .pure (λF=>SF ho (vm r g) (vm r H)) r Q rfl
  ·rename_i k a Y b' C;obtain ⟨x,y,rfl,g,H⟩:=Xh C;obtain ⟨I,Q⟩:=eA h;obtain rfl:=ζ I;exact .pure (λF=>SG ho (vm r g) (vm r H)) r Q rfl
  ·rename_i k a Y b' a1 c' C;obtain ⟨x,y,z,rfl,g,H,D⟩:=Xi C;obtain ⟨I,Q⟩:=eA h;obtain ⟨rfl,rfl⟩:=ζ I;exact .pure (λF=>SH ho (vm r g) (vm r H) (vm r D)) r Q rfl
  ·rename_i k a Y b' a1 c' C;obtain ⟨x,y,z,rfl,g,H,D⟩:=Xi C;obtain ⟨I,Q⟩:=eA h;obtain ⟨rfl,rfl⟩:=ζ I;exact .pure (λF=>SI ho (vm r g) (vm r H) (vm r D)) r Q rfl
  ·exact h.elim
end
theorem S4 {F:PH} {b:Nat} {o:Obj} (h:F b=nC):F.le (F.set b o):=λx u g=>by
 have:x≠b:=λe=>by rw [e,h] at g;cases g
 rw [BV _ _ this];exact g
section
variable {P:Program} {σ:Sy} {E:En} {F:PH} {x y z:Operand} {o:Oper}
def KK (F:PH) (E:En) (o:Oper) (K:EK) (E':En) (F':PH):Prop:=∃fl σ',(fl=nZ->F.le F')/\Rel σ' E'/\(∀t,o.dst≠mB t->E' t=E t)/\K fl σ' F'
def S5 (P:Program) (E:En) (F:PH) (o:Oper) (K:EK):Prop:=aH P (execOp (ev E) o) F (bJ P (KK F E o K) o E)
theorem qn {d:Option Tmp} {v:Value} {t:Nat} (h:d≠mB t):cM E d v t=E t:=by
 cases d with
 |none=>rfl
 |some d=>simp only [cM,upd,kX (λe:t=d=>h (by rw [e]))];rfl
variable {K:EK}
theorem KK.mk {nv:NV} {v:Value} {g:PH} {w:Bool} (r:Rel σ E) (h:K w (σ.putO o.dst nv) g) (C:iX σ.T nv v) (A:w=nZ->F.le g):KK F E o K (cM E o.dst v) g:=
 ⟨w,_,A,r.putO C,λ_ B=>qn B,h⟩
theorem KK.f {nv:NV} {v:Value} {g:PH} (r:Rel σ E) (h:K nS (σ.putO o.dst nv) g) (w:iX σ.T nv v):KK F E o K (cM E o.dst v) g:=KK.mk r h w (λh=>by cases h)
theorem iB {w:Obj} {s:Nat->SV} {v:Nat->Value} (h:Xz σ o.dst w s F K) (r:Rel σ E) (A:∀b,V4 σ.T (s b) (v b)):∀b,F b=nC->KK F E o K (cM E o.dst (v b)) (F.set b w):=
 λb g=>KK.mk r (Yo (h b g)) (A b) (λ_=>S4 g)
theorem Np {d:Option Tmp} {t:TypeId} {v:Value} {K:Sy->Prop} (h:za P σ d t v K) (r:Rel σ E):∃g,Rel g (cM E d v)/\K g:=by
 unfold za at h;split at h
 ·exact ⟨σ,r,h⟩
 ·rename_i d;split at h
  ·split at h
   ·obtain ⟨rfl,h⟩:=h;exact ⟨_,r.put (show iX σ.T (.sv (.c (.tuple _))) _ from rfl),h⟩
   ·obtain ⟨a,rfl,h⟩:=h;exact ⟨_,r.put (show iX σ.T (.sv (.c (.tuple _))) _ from rfl),h⟩
   ·obtain ⟨a,b,rfl,h⟩:=h;exact ⟨_,r.put (show iX σ.T (.sv (.c (.tuple _))) _ from rfl),h⟩
   ·obtain ⟨a,b,c,rfl,h⟩:=h;exact ⟨_,r.put (show iX σ.T (.sv (.c (.tuple _))) _ from rfl),h⟩
   ·obtain ⟨a,b,c,e,rfl,h⟩:=h;exact ⟨_,r.put (show iX σ.T (.sv (.c (.tuple _))) _ from rfl),h⟩
   ·obtain ⟨a,b,c,e,f,rfl,h⟩:=h;exact ⟨_,r.put (show iX σ.T (.sv (.c (.tuple _))) _ from rfl),h⟩
   ·exact h.elim
  ·obtain ⟨a,rfl,h⟩:=h;exact ⟨_,r.put (sH _ a),h⟩
theorem BZ {t:TypeId} {v:Value} {w:PH} (h:za P σ o.dst t v λσ=>K nS σ w) (r:Rel σ E):KK F E o K (cM E o.dst v) w:=by obtain ⟨g,A,h⟩:=Np h r;exact ⟨nS,g,(λh=>by cases h),A,λ_ B=>qn B,h⟩
theorem qp {w:VW} {v:Value} (g:w.val=mB v) (r:∀c,w≠.c (.agg c)) (h:∀u,w≠.any u):v.cells= #[v]:=by
 cases w<;>simp only [VW.val] at g<;>first|(cases g;done)|(cases g;rfl)|exact absurd rfl (h _)|skip
 rename_i u;cases g;cases v<;>first|rfl|exact absurd rfl (r _)
theorem Ke {w:VW} {v:Value} (g:w.val=mB v) (D:∀c,w≠.c (.agg c)) (B:∀u,w≠.any u) (C:∀u,w≠.c (.tuple u)) (r:∀u,w≠.vt u) (A:w≠.und):ak v:=by
 cases w<;>simp only [VW.val] at g<;>first|(cases g;done)|exact absurd rfl (B _)|exact absurd rfl (r _)|exact absurd rfl A|skip
 all_goals cases g
 case c.refl=>exact ⟨λc e=>D c (by rw [e]),λc e=>C c (by rw [e])⟩
 all_goals exact ⟨(λ_ h=>by cases h),(λ_ h=>by cases h)⟩
theorem Ex (r:Rel σ E):∀(l:List (Nat×Operand)) (k:Nat) {us:List Value},Nj σ k l=mB us->(l.map λp=>(p.1,ev E p.2))=Eo k us/\Na us/\us.length=l.length
 |[],k,us,h=>by cases h;exact ⟨rfl,trivial,rfl⟩
 | (i,x)::l,k,us,h=>by
  unfold Nj at h;split at h
  ·cases h
  ·cases h
  ·rename_i hi D A;split at h
   ·rename_i v vs g w;cases h;obtain ⟨B,G,C⟩:=Ex r l _ w;obtain rfl:=YQ hi;refine ⟨?_,⟨qp g (λc e=>D c e) (λu e=>A u e),G⟩,by simp [C]⟩;rw [xV,B];show (i,ev E x)::_=(i,v)::_;rw [ba r rfl g]
   ·cases h
  ·cases h
theorem Kf {t:TypeId} {s:ByteArray} {K:En->PH->Prop} (w:o.op=.range t x) (g:ev E x=.string s) (r:P.underlying t=mB .string) (h:∀b,F b=nC->K (cM E o.dst (.pointer (mB ⟨b,0,nC⟩))) (F.set b (.stringIter s 0))):
  aH P (execOp (ev E) o) F (bJ P K o E):=by
 simp only [execOp,w,g,Instr.range,aE,bW r,aM,newObj,aH,bJ];exact h
theorem Kg {t:TypeId} {v:Value} {K:En->PH->Prop} (A:o.op=.range t x) (w:ev E x=v) (h:aH P (Instr.range t v) F λr g=>K (cM E o.dst r) g):aH P (execOp (ev E) o) F (bJ P K o E):=by simp only [execOp,A,w,aE,aM,bJ];exact h
theorem S6 {v:Value} {is:Bool} {K:En->PH->Prop} (A:o.op=.next x is) (w:ev E x=v) (h:aH P (Instr.next v is o.type) F λr g=>K (cM E o.dst r) g):aH P (execOp (ev E) o) F (bJ P K o E):=by simp only [execOp,A,w,aE,aM,bJ];exact h
theorem Kh {t:TypeId} {u v q:Value} {K:En->PH->Prop} (w:o.op=.insert t x y z) (r:ev E x=u) (B:ev E y=v) (A:ev E z=q)
  (h:aH P (Instr.mapUpdate t u v q) F λ_ g=>K (cM E o.dst undef) g):aH P (execOp (ev E) o) F (bJ P K o E):=by
 subst r B A;have:execOp (ev E) o=execOp (ev E) {o with op:=.mapUpdate t x y z}:=by simp only [execOp,w]
 rw [this];exact oJ (o:={o with op:=.mapUpdate t x y z}) rfl rfl rfl rfl h
theorem Ki {g:Array TypeId} {u v:Value} {K:En->PH->Prop} (B:o.op=.call ⟨.builtin .delete,#[x,y],g⟩) (A:ev E x=u) (C:ev E y=v) (h:aH P (Builtin.delete_ g o.type #[u,v]) F λr w=>K (cM E o.dst r) w):
  aH P (execOp (ev E) o) F (bJ P K o E):=by
 simp [execOp,B,resolve,A,C,invoke,builtin,bJ];exact h
theorem Kj (h:ZB P σ o F K) (r:Rel σ E):S5 P E F o K:=by
 cases ho:o.op<;>simp only [ZB,ho] at h<;>try exact h.elim
 case alloc t=>
  split at h
  ·rename_i z D;exact M7 ho D (iB h r (λ_=>rfl))
  ·exact h.elim
 case box t x=>
  split at h
  ·rename_i c U;exact JP ho (vm r U) (iB h r (λ_=>rfl))
  ·rename_i v U;obtain ⟨H,h⟩:=h;rw [<- H] at h;exact JP ho (ba r U rfl) (iB h r (λ_=>rfl))
  ·rename_i G J;split at h
   ·rename_i v A;have H:v.cells= #[v]:=qp A (λc e=>G c e) (λu e=>J u e);rw [<- H] at h;exact JP ho (ba r rfl A) (iB h r (λ_=>rfl))
   ·exact h.elim
 case buildSlice t m parts=>
  split at h
  ·rename_i e ht;split at h
   ·rename_i s b z D R;split at h
    ·rename_i hm hs h0;have N:m*s<=16777216:=Zh hm;have C:z.cells.size=s:=YQ hs;split at h
     ·rename_i l G J hl;obtain rfl:=YQ G;obtain ⟨e1,e2,e3⟩:=Ex r _ _ hl;exact iq ho ht D N R (by simpa using e1) (Nc (by rw [e3];exact YQ J) rfl C e2) (by rw [C]) (iB h r (λ_=>rfl))
     ·split at h
      ·rename_i c a4 hn;obtain ⟨a0,h⟩:=h;obtain ⟨p,hp,Z⟩:=Zf.1 a4;obtain ⟨i,x⟩:=p;simp only [YD] at Z;obtain ⟨rfl,V⟩:=Z;exact iq (vs:=[(0,.agg c)]) ho ht D N R (by simp [hp,vm r V]) (Gc a0 C h0) (by rw [C]) (iB h r (λ_=>rfl))
      ·obtain ⟨res,e1,h⟩:=sI r _ _ (by rw [<- qh _ (by rw [C];exact h0)];simp [Builtin.zeroCells,C]) h;refine iq (vs:=parts.toList.map λp=>(p.1,ev E p.2)) ho ht D N R (by simp) (cells:=res) ?_ (by rw [C]) (iB h r (λ_=>rfl));rw [qh _ (by rw [C];exact h0)];exact e1
    ·exact h.elim
   ·exact h.elim
  ·exact h.elim
 case store t x y=>
  obtain ⟨a1,a,W,V,h⟩:=lj h r;have st:∀{v:Value} {b:Nat},ev E y=v->vV P t=mB (1,b)->v.cells= #[v]->ak v->rj F a v (λF=>K nS (a1.putO o.dst (.sv .und)) F)->S5 P E F o K:=by intro v b Q D H a2 ⟨c,e,G,J,Y,h4⟩;exact JQ ho V Q D H rfl a2 J G Y (KK.f W (Yo h4) rfl)
  split at h
  ·rename_i v n b Q D;obtain ⟨G,J,c,e,Y,h4,h5,h6⟩:=h;refine JR ho V (vm W Q) D G J (λh0=> ?_) h4 Y h5 (KK.f W (Yo h6) rfl);have:v.toList.length=0:=by rw [h0];rfl
   simp at this;simp [this] at G
  ·exact h.elim
  ·rename_i v b X a3 Q D;exact st (vm W Q) D (qp (w:=.c v) rfl (λc e=>X c (by cases e;rfl)) (λu e=>by cases e)) (Ke (w:=.c v) rfl (λc e=>X c (by cases e;rfl)) (λu e=>by cases e) (λc e=>a3 c (by cases e;rfl)) (λu e=>by cases e) (λe=>by cases e)) h
  ·rename_i v b Q D;exact st (ba W Q rfl) D h.2.1 h.1 h.2.2
  ·exact h.elim
  ·exact h.elim
  ·rename_i b D J Y h4 h5 h6 h7;split at h
   ·rename_i v A;exact st (ba W rfl A) D (qp A (λc e=>J c e) (λu e=>h5 u e)) (Ke A (λc e=>J c e) (λu e=>h5 u e) (λc e=>Y c e) (λu e=>h6 u e) (λe=>h7 e)) h
   ·exact h.elim
  ·exact h.elim
 case range t x=>
  split at h
  ·rename_i s ht V;exact Kf ho (vm r V) ht (iB h r (λ_=>rfl))
  ·split at h
   ·rename_i v A;exact Kg ho (ba r rfl A) (de _ _ h λu L ⟨b,M,h⟩=>by subst M;exact KK.f r h rfl)
   ·exact h.elim
  ·exact h.elim
 case next x is=>
  split at h
  ·rename_i v A;exact S6 ho (ba r rfl A) (de _ _ h λu L ⟨b,M,h⟩=>by subst M;exact KK.f r h rfl)
  ·exact h.elim
 case makeSlice t x y=>
  split at h
  ·rename_i u v I A;exact qhT ho (ba r rfl I) (ba r rfl A) (de _ _ h λu L ⟨b,M,h⟩=>by subst M;exact KK.f r h rfl)
  ·exact h.elim
 case makeMap t q=>
  cases q<;>simp only at h<;>try exact h.elim
  exact BW ho (iB h r (λ_=>rfl))
 case mapUpdate t x y z=>
  split at h
  ·rename_i u v w I A U;exact oJ ho (ba r rfl I) (ba r rfl A) (ba r rfl U) (de _ _ h λu L h=>KK.f r h rfl)
  ·exact h.elim
 case insert t x y z=>
  split at h
  ·rename_i u v w I A U;exact Kh ho (ba r rfl I) (ba r rfl A) (ba r rfl U) (de _ _ h λu L h=>KK.f r h rfl)
  ·exact h.elim
 case defer c=>
  obtain ⟨O,B,ts⟩:=c;obtain ⟨B⟩:=B;cases O with
  |value g=>
   obtain ⟨us,G,h⟩:=jN r _ h;split at h
   ·rename_i f a b hg;exact M9 ho (vm r hg) (by rw [<- G];simp) h.1 (KK.f r h.2 rfl)
   ·exact h.elim
  |_=>exact h.elim
 case call c=>
  obtain ⟨O,B,ts⟩:=c;obtain ⟨B⟩:=B;cases O with
  |invoke=>exact h.elim
  |builtin b=>
   simp only at h;split at h
   ·split at h
    ·rename_i x y u v I A;exact JS ho (ba r rfl I) (ba r rfl A) (de _ _ h λu L ⟨b,M,h⟩=>by subst M;exact KK.f r h rfl)
    ·exact h.elim
   ·split at h
    ·rename_i x y u v I A;exact SK ho (ba r rfl I) (ba r rfl A) (de _ _ h λu L ⟨b,M,h⟩=>by subst M;exact KK.f r h rfl)
    ·exact h.elim
   ·split at h
    ·rename_i x y u v I A;exact Ki ho (ba r rfl I) (ba r rfl A) (de _ _ h λu L h=>KK.f r h True.intro)
    ·exact h.elim
   ·exact h.elim
  |value g=>
   have cF:∀(h:wI σ B λvs=>(match σ.ov g with
     | .c (.func (.func f) a b)=>y5 (aG P f) (aj P f (a++vs.toArray++b) F λv F=>za P σ o.dst o.type v λσ=>K nS σ F)
     | .any u=>∃(k:Nat) (a b:Array Value),u=.func (.func k) a b/\aG P k=nZ/\aj P k (a++vs.toArray++b) F λv F=>za P σ o.dst o.type v λσ=>K nS σ F
     |_=>False)),S5 P E F o K:=by
    intro h;obtain ⟨us,G,h⟩:=jN r _ h;split at h
    ·rename_i f a b hg;obtain ⟨H,h⟩:=eA h;exact Em ho (vm r hg) H (by rw [<- G];simp) (h.mono λv L h=>BZ h r)
    ·rename_i u hg;obtain ⟨f,a,b,rfl,H,h⟩:=h;exact Em ho (ba r hg rfl) H (by rw [<- G];simp) (h.mono λv L h=>BZ h r)
    ·exact h.elim
   cases g with
   |func f=>obtain ⟨us,G,h⟩:=jN r _ h;obtain ⟨H,h⟩:=eA h;exact SJ ho H (by rw [<- G];simp) (h.mono λv L h=>BZ h r)
   |_=>exact cF h
end
section
variable {P:Program} {σ:Sy} {E:En} {F:PH} {n:Nat} {ops:Array Oper}
def Fr (M:List Nat) (E E':En):Prop:=∀t,pf M t=nS->E' t=E t
theorem zc {a b:List Nat} {t:Nat}:pf (a++b) t=nS↔pf a t=nS/\pf b t=nS:=by
 induction a with
 |nil=>simp [pf]
 |cons x a ih=>simp only [zH,pf];cases Nat.beq t x<;>simp [ih]
theorem Fr.refl {M:List Nat} {E:En}:Fr M E E:=λ_ _=>rfl
theorem Fr.trans {M:List Nat} {E w g:En} (h:Fr M E w) (A:Fr M w g):Fr M E g:=λt r=>(A t r).trans (h t r)
theorem Fr.left {a b:List Nat} {E g:En} (h:Fr a E g):Fr (a++b) E g:=λt r=>h t (zc.1 r).1
theorem Fr.right {a b:List Nat} {E g:En} (h:Fr b E g):Fr (a++b) E g:=λt r=>h t (zc.1 r).2
theorem sJ {M:List Nat} {d:Nat} (h:d∈M) {t:Nat} (g:pf M t=nS):t≠d:=by
 induction M with
 |nil=>cases h
 |cons x M ih=>
  simp only [pf] at g;intro e;subst e;rcases tQ.1 h with rfl|h
  ·have:Nat.beq t t=nZ:=by simp
   rw [this] at g;cases g
  ·cases hb:Nat.beq t x<;>rw [hb] at g
   ·exact ih h g rfl
   ·cases g
theorem B0 {M:List Nat} {d:Option Tmp} {v:Value} (h:∀t,d=mB t->t∈M):Fr M E (cM E d v):=λt g=>qn λe=>sJ (h t e) g rfl
theorem zd {l:List Oper} {o:Oper} {d:Nat} (g:o∈l) (hd:o.dst=mB d):d∈J8 l:=by
 induction l with
 |nil=>cases g
 |cons x l ih=>
  unfold J8;rcases tQ.1 g with rfl|g
  ·rw [hd];exact Xw ..
  ·split
   ·exact VB _ (ih g)
   ·exact ih g
def QK (M:List Nat) (E0:En) (K:CK):Exit->En->PH->Prop:=λex E F=>(∃σ,Rel σ E/\K ex σ F)/\Fr M E0 E
inductive GOk (ops:Array Oper) (σ:Sy) (E:En) (o:Oper):G->Prop
 |go (h:Region.wanted o (yE ops E)=nZ):GOk ops σ E o .go
 |no (h:Region.wanted o (yE ops E)=nS):GOk ops σ E o .no
 |split (i:Nat) (b:SB) (want v:Bool) (hi:σ.T i=mB b) (hv:b.v=.bool v) (h:Region.wanted o (yE ops E)=(v==want)):GOk ops σ E o (.split i b want)
 |bad:GOk ops σ E o .bad
theorem PT {j t:Nat} (g:(ops[j]?).bind (·.dst)=mB t):yE ops E j=(match E t with| .bool b=>mB b|_=>nC):=by unfold yE;rw [g]<;>rfl
theorem cV (r:Rel σ E) {t:Nat} {w:VW} {v:Value} (h:σ.vw t=w) (g:w.val=mB v):E t=v:=PS (r.val t) (by rw [<- h] at g;exact g)
theorem B1 (r:Rel σ E) (o:Oper):GOk ops σ E o (Yp ops σ o):=by
 unfold Yp;split
 ·rename_i C;exact .go (by unfold Region.wanted;rw [C])
 ·rename_i j g C;have A:∀y,Region.wanted o y=(y j==mB g):=λy=>by unfold Region.wanted;rw [C]
  split
  ·rename_i G;refine .no ?_;rw [A];unfold yE;rw [G];rfl
  ·rename_i t D;have B:∀{b:Bool},E t=.bool b->Region.wanted o (yE ops E)=(b==g):=by intro b B;rw [A,PT D,B];cases b<;>cases g<;>rfl
   split
   ·rename_i b h;have:=B (cV r h rfl);split
    ·rename_i w;exact .go (by rw [this];exact w)
    ·rename_i w;exact .no (by rw [this];exact w)
   ·rename_i h;refine .no ?_;rw [A,PT D,cV r h rfl];rfl
   ·rename_i i b h;exact .split i _ g b (J9 h) rfl (B (cV r h rfl))
   ·rename_i i p d h;exact .split i _ g _ (Nl h) rfl (B (cV r h rfl))
   ·exact .bad
theorem Kk {b:SB} {v:Bool} {f:Bool->Prop} (h:ZA b f) (g:b.v=.bool v):f v:=by
 unfold ZA at h;split at h
 ·rename_i b;obtain rfl:b=v:=by simpa [SB.v] using g
  cases b
  ·exact h.2 rfl
  ·exact h.1 rfl
 ·rename_i p d;have: @decide p d=v:=by simpa [SB.v] using g
  cases v
  ·exact h.2 (ι this)
  ·exact h.1 (ζ this)
 ·exact h.elim
theorem S7 {Q:Exit->En->PH->Prop} {o:Oper} {l:List Oper} {K:Sy->PH->Prop} (I:Region.wanted o (yE ops E)=nZ) (hd:fq n o.dst=nZ) (h:Zn P o K σ F) (r:Rel σ E)
  (k:∀g G C,Rel g G->(∀t,o.dst≠mB t->G t=E t)->K g C->HL P n ops Q l G C):HL P n ops Q (o::l) E F:=by
 unfold Zn at h;split at h
 ·obtain ⟨g,nv,O,v,N,w,M,_,h⟩:=Kc h r;exact qdK N (k _ _ _ (w.putO M) (λ_ L=>qn L) h) I hd
 ·have:=Kj h r;refine Pz I hd (de _ _ this ?_);intro J C B;cases J with
  |value v=>obtain ⟨D,g,_,w,A,h⟩:=B;exact k _ _ _ w A h
  |skip=>obtain ⟨D,g,_,w,A,h⟩:=B;exact k _ _ _ w A h
  |enter f H=>exact B.mono λv C ⟨D,g,_,w,A,h⟩=>k _ _ _ w A h
  |defer d=>obtain ⟨hi,D,g,_,w,A,h⟩:=B;exact ⟨hi,k _ _ _ w A h⟩
  |_=>exact B
theorem B2 {M:List Nat} {B:En} {K:CK}:∀(l:List Oper) (σ:Sy) (E:En) (F:PH),(∀o∈l,∀t,o.dst=mB t->t∈M)->Fr M B E->XQ P n ops (K .normal) l σ F->Rel σ E->HL P n ops (QK M B K) l E F
 |[],σ,E,F,_,fr,h,r=>Su ⟨⟨σ,r,h⟩,fr⟩
 |o::l,σ,E,F,hM,fr,h,r=>by
  unfold XQ at h;obtain ⟨hd,h⟩:=eA h;have step:∀{σ:Sy},Rel σ E->Region.wanted o (yE ops E)=nZ->Zn P o (XQ P n ops (K .normal) l) σ F->HL P n ops (QK M B K) (o::l) E F:=λr w h=>
   S7 w hd h r λG O J C Q L=>B2 l G O J (λo D=>hM o (VB _ D))
    (fr.trans λt N=>Q t λe=>sJ (hM o (Xw ..) t e) N rfl) L C
  have skip:∀{σ:Sy},Rel σ E->Region.wanted o (yE ops E)=nS->XQ P n ops (K .normal) l (σ.putO o.dst (.sv .und)) F->HL P n ops (QK M B K) (o::l) E F:=λr w h=>
   MV w hd (B2 l _ _ F (λo D=>hM o (VB _ D)) (fr.trans (B0 λt e=>hM o (Xw ..) t e)) h (r.putO rfl))
  have g:=B1 (ops:=ops) r o;revert h g;cases Yp ops σ o with
  |go=>intro h g;cases g with|go w=>exact step r w h
  |no=>intro h g;cases g with|no w=>exact skip r w h
  |bad=>intro h g;exact h.elim
  |split i b H=>
   intro h g;cases g with
   |split _ _ _ v hi I w=>
    have h:=Kk h I;have C:Rel (σ.rf i (.lit v)) E:=r.rf hi I;split at h
    ·rename_i A;exact step C (by rw [w];exact A) h
    ·rename_i A;exact skip C (by rw [w];exact A) h
end
inductive PW:Pn->cn->Prop
 |nil:PW [] []
 |cons {i:Nat} {c:PH->Prop} {S:World->Prop} {pend:Pn} {Sp:cn} (h:∀F,c F->BM F S) (t:PW pend Sp):PW ((i,c)::pend) ((i,S)::Sp)
theorem PW.rest {o:Oper} {g:Pn} {r:cn} (h:PW g r):PW (g.filter λp=> !Oper.waits .any o p.1) (cn.rest .any o r):=by
 induction h with
 |nil=>exact .nil
 |cons h t ih=>
  rename_i i c S g r;unfold cn.rest at*;simp only [List.filter_cons];cases Oper.waits .any o i
  ·exact .cons h ih
  ·exact ih
theorem Nq {F:PH} {g:Pn} {w:cn} (h:PW g w) {K:Prop} (r:ST F g K):fN w F/\K:=by
 induction h with
 |nil=>exact ⟨PJ,r⟩
 |cons h t ih=>exact ⟨PK (h _ r.1) (ih r.2).1,(ih r.2).2⟩
theorem Nr {F r:PH} {S:World->Prop} (A:F.le r) (h:BM F S):BM r S:=λe w st=>h e w
 ⟨st.os,st.tape,st.output,λb o g=>st.heap b o (A b o g),λb o g=>⟨(by
  cases hF:F b with
  |none=>rfl
  |some u=>
   have B:=(st.frame b o g).1;rw [A b u hF] at B
   cases B),(st.frame b o g).2⟩⟩
theorem Nt {F g:PH} {w:cn} (A:F.le g) (h:fN w F):fN w g:=λr B=>Nr A (h r B)
theorem Gi {F:PH} {o:Oper} {g:cn} (h:fN g F):fN (cn.rest .any o g) F:=λr w=>h r (Yh.1 w).1
theorem Ey:∀{l:List Prop},SU l->∀p∈l,p
 |[],h=>h.elim
 |[p],h=>by intro q r;rw [wa] at r;subst r;exact h
 |p::q::l,h=>by
  intro u g;rcases tQ.1 g with rfl|g
  ·exact h.1
  ·exact Ey h.2 u g
theorem ze {ops:Array Oper} {w:Sy} {i:Nat} {o:Oper} {g:G}:∀{l:List Nat},uM ops w l=mB (i,o,g)->ops[i]? =mB o/\Yp ops w o=g
 |[],h=>by cases h
 |j::l,h=>by
  unfold uM at h;split at h
  ·cases h
  ·rename_i u r;split at h
   ·rename_i A;split at h
    ·cases h;exact ⟨r,A⟩
    ·exact ze h
   ·cases h;exact ⟨r,rfl⟩
theorem zg {ops:Array Oper} {r:Sy}:∀{l:List Nat},uM ops r l=nC->(∀i∈l,ops[i]?≠nC)->∀i∈l,∀o,ops[i]? =mB o->Yp ops r o=.go
 |[],_,_=>λi hi=>by cases hi
 |j::l,h,hn=>by
  unfold uM at h;split at h
  ·rename_i A;exact absurd A (hn j (Xw ..))
  ·rename_i u B;split at h
   ·rename_i w;split at h
    ·cases h
    ·intro i hi o g;rcases tQ.1 hi with rfl|hi
     ·rw [B] at g;cases g;exact w
     ·exact zg h (λi hi=>hn i (VB _ hi)) i hi o g
   ·cases h
section
variable {P:Program} {n:Nat} {ops:Array Oper} {M:List Nat} {E0:En} {K:CK}
theorem B3 {o:Oper} {E:En} {F:PH} {A B:En->PH->Prop} (h:aH P (execOp (ev E) o) F (bJ P A o E)) (g:∀D w,A D w->B D w):aH P (execOp (ev E) o) F (bJ P B o E):=
 de _ _ h λG w r=>by
  cases G with
  |value v=>exact g _ _ r
  |skip=>exact g _ _ r
  |enter f C=>exact r.mono λv w h=>g _ _ h
  |defer d=>exact ⟨r.1,g _ _ r.2⟩
  |_=>exact r
def jP (K:CK):Prop:=∀c σ F,¬K (.panic c) σ F
theorem ln (H:jP K) (C:∀o∈ops.toList,∀t,o.dst=mB t->t∈M):∀(k fuel:Nat) (listed:Array Bool) (w:Pn) (G:cn) (L:Sy) (E:En) (F:PH),Fr M E0 E->PW w G->fN G F->
  XP P n ops (K .normal) k fuel listed w L F->Rel L E->RG P n ops (QK M E0 K) fuel listed G E F
 |0,fuel,listed,w,G,L,E,F,fr,pw,hh,h,r=>by unfold XP at h;exact h.elim
 |k+1,fuel,listed,w,G,L,E,F,fr,pw,hh,h,r=>by
  have hp:∀c E F,¬QK M E0 K (.panic c) E F:=λc E F ⟨⟨L,_,h⟩,_⟩=>H c L F h;have mem:∀{i:Nat} {o:Oper},ops[i]? =mB o->o∈ops.toList:=λh=>by rw [<- YR] at h;exact wh h
  unfold XP at h;split at h
  ·rename_i hr;exact MZ hr ⟨⟨L,r,h⟩,fr⟩
  ·rename_i rs a1;split at h
   ·exact h.elim
   ·rename_i fuel;split at h
    ·rename_i i o g I;obtain ⟨hi,hg⟩:=ze I;obtain ⟨hb,h⟩:=eA h;simp only [Vv] at hb;obtain ⟨⟨⟨h1,h2⟩,X⟩,Z⟩:=hb;have J:=B1 (ops:=ops) r o;rw [hg] at J;split at h
     ·cases J with
      |no N=>exact M1 hi h1 h2 X Z hp N hh (ln H C k fuel _ w G _ _ F (fr.trans (B0 λt e=>C o (mem hi) t e)) pw hh h (r.putO rfl))
     ·rename_i j b a2;cases J with
      |split _ _ _ v hj hv N=>have h:=Kk h hv;exact ln H C k (fuel+1) _ w G _ _ F fr pw hh h (r.rf hj hv)
     ·cases J with
      |go N=>
       obtain ⟨a0,nv,ck,v,hy,V,Q,R,h⟩:=Kc h r;have A:Fr M E0 (cM E o.dst v):=fr.trans (B0 λt e=>C o (mem hi) t e);cases ck with
       |none=>exact qdM hi h1 h2 X Z hp N R hh (ln H C k fuel _ w G _ _ F A pw hh h (V.putO Q))
       |some c=>refine qdL hi h1 h2 X Z hp N hy hh (ln H C k fuel _ ((i,c)::w) _ _ _ F A (.cons (λF hc=>El (R.2 F hc)) pw) (PK (El hy) hh) h (V.putO Q))
     ·exact h.elim
    ·rename_i I;have O:=Ey h;have U:∀i∈Region.ready .any ops listed,∃o,ops[i]? =mB o/\_:=λi hi=>by
      have:=O _ (xR.2 ⟨i,hi,rfl⟩);split at this
      ·exact this.elim
      ·rename_i o D;exact ⟨o,D,this⟩
     have Y:=zg I (λi hi e=>by obtain ⟨o,D,_⟩:=U i hi;rw [e] at D;cases D);refine Sv rfl (by cases hl:Region.ready .any ops listed with|nil=>exact absurd hl a1|cons _ _=>rfl) λi hi=> ?_;obtain ⟨o,D,W⟩:=U i hi;obtain ⟨hd,W⟩:=eA W;have J:=B1 (ops:=ops) r o;rw [Y i hi o D] at J;cases J with
     |go N=>
      refine ⟨o,D,hd,N,B3 (Kj W r) ?_⟩;rintro E' F' ⟨fl,a0,hl,V,hf,h⟩;have A:Fr M E0 E':=fr.trans λt ht=>hf t λe=>sJ (C o (mem D) t e) ht rfl;cases fl with
      |true=>have B:=Nt (hl rfl) (Gi (o:=o) hh);exact ⟨B,ln H C k fuel _ _ _ _ _ F' A pw.rest B h V⟩
      |false=>obtain ⟨B,h⟩:=Nq pw.rest h;exact ⟨B,ln H C k fuel _ _ _ _ _ F' A pw.rest B h V⟩
end
end Go.Proofs.YteilolbbgieadaaGreatDoor.Rx
