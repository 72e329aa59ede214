/-
  A reader of code: from a function's code it computes, in the kernel, the clean form of what the code does. Part 1: the reader.
-/
import Derived.Orders
import Derived.Tactics
import Derived.RowKit3
import Derived.OrdersHeld
import Derived.Scope
import Derived.Defers
import Derived.Laws.Append
import Derived.Test.YtcemhghkipgdiaaGreatDoorRows
import Derived.WalkKit
import Derived.ProofKit
import Derived.OpenShut
import Derived.SizedLaws
import Derived.Carry
import Derived.Deep.Slices
import Derived.Test.YtcemhghkipgdiaaGreatDoorProg
import Derived.KernelRfl
open Option renaming some->Y3,none->Y5
open Go.Obj renaming cells->Y4
open Bool renaming false->Y6,true->Y8
open Go.Addr renaming add->Zb,mk->Zc
namespace Go.Proofs.YtcemhghkipgdiaaGreatDoor
open Go
theorem Zn {a b:Nat} (h:Nat.ble (a+1) b=true):a<b:=Nat.le_of_ble_eq_true h
theorem Υ:type_of%@if_neg:=@if_neg
theorem Χ:type_of%@if_pos:=@if_pos
theorem δ:type_of%@decide_eq_true_eq:=@decide_eq_true_eq
theorem ε:type_of%@of_decide_eq_true:=@of_decide_eq_true
theorem ζ:type_of%@decide_eq_true:=@decide_eq_true
theorem η:type_of%@of_decide_eq_false:=@of_decide_eq_false
theorem ι:type_of%@decide_eq_false:=@decide_eq_false
theorem μ:type_of%@not_not_intro:=@not_not_intro
theorem N4:type_of%@Int.toNat_natCast:=@Int.toNat_natCast
theorem N5:type_of%@List.getElem?_eq_getElem:=@List.getElem?_eq_getElem
theorem N6:type_of%@List.getElem?_eq_some_iff:=@List.getElem?_eq_some_iff
theorem W5:type_of%@List.mem_singleton:=@List.mem_singleton
theorem W6:type_of%@List.mem_cons:=@List.mem_cons
theorem W7:type_of%@List.mem_of_getElem?:=@List.mem_of_getElem?
theorem W8:type_of%@Nat.le_refl:=@Nat.le_refl
theorem W9:type_of%@List.mem_append:=@List.mem_append
theorem Xa:type_of%@List.length_append:=@List.length_append
theorem Xb:type_of%@Array.length_toList:=@Array.length_toList
theorem Xc:type_of%@Bool.eq_iff_iff:=@Bool.eq_iff_iff
theorem Xd:type_of%@List.length_map:=@List.length_map
theorem Xe:type_of%@List.length_take:=@List.length_take
theorem Xf:type_of%@List.take_of_length_le:=@List.take_of_length_le
theorem Xg:type_of%@List.take_length:=@List.take_length
theorem Xh:type_of%@List.getElem?_append_left:=@List.getElem?_append_left
theorem Xi:type_of%@List.mem_map:=@List.mem_map
theorem Xj:type_of%@List.getElem?_map:=@List.getElem?_map
theorem Xk:type_of%@List.length_singleton:=@List.length_singleton
theorem Xl:type_of%@List.length_cons:=@List.length_cons
theorem Xm:type_of%@Nat.zero_add:=@Nat.zero_add
theorem Xn:type_of%@List.getElem?_append_right:=@List.getElem?_append_right
theorem Xo:type_of%@List.mem_cons_of_mem:=@List.mem_cons_of_mem
theorem Xp:type_of%@List.eq_nil_of_length_eq_zero:=@List.eq_nil_of_length_eq_zero
theorem Xq:type_of%@Bool.and_eq_true_iff:=@Bool.and_eq_true_iff
theorem Xr:type_of%@List.take_succ_eq_append_getElem:=@List.take_succ_eq_append_getElem
theorem Xs:type_of%@List.take_append_of_le_length:=@List.take_append_of_le_length
theorem Xt:type_of%@List.map_append:=@List.map_append
theorem Xu:type_of%@Array.getElem?_eq_getElem:=@Array.getElem?_eq_getElem
theorem Xv:type_of%@List.nodup_append:=@List.nodup_append
theorem Xw:type_of%@List.map_cons:=@List.map_cons
theorem Xx:type_of%@List.getD_eq_getElem?_getD:=@List.getD_eq_getElem?_getD
theorem Xy:type_of%@Option.some.inj:=@Option.some.inj
theorem Xz:type_of%@Nat.mul_one:=@Nat.mul_one
theorem XA:type_of%@List.append_assoc:=@List.append_assoc
theorem XB:type_of%@List.getElem?_cons_succ:=@List.getElem?_cons_succ
theorem XC:type_of%@List.getElem?_eq_none:=@List.getElem?_eq_none
theorem XD:type_of%@List.all_eq_true:=@List.all_eq_true
theorem XE:type_of%@Bool.false_eq_true:=@Bool.false_eq_true
theorem XF:type_of%@List.getElem?_range:=@List.getElem?_range
theorem XG:type_of%@List.getElem?_take_of_lt:=@List.getElem?_take_of_lt
theorem XH:type_of%@List.append_nil:=@List.append_nil
theorem XI:type_of%@List.length_range:=@List.length_range
theorem XJ:type_of%@Bool.and_eq_true:=@Bool.and_eq_true
theorem XK:type_of%@List.drop_zero:=@List.drop_zero
theorem XL:type_of%@List.take_add_one:=@List.take_add_one
theorem XM:type_of%@List.nil_append:=@List.nil_append
theorem XN:type_of%@List.mem_range:=@List.mem_range
theorem XO:type_of%@Nat.pow_le_pow_right:=@Nat.pow_le_pow_right
theorem XP:type_of%@List.cons_append:=@List.cons_append
theorem XQ:type_of%@List.drop_length:=@List.drop_length
theorem XR:type_of%@List.ext_getElem?:=@List.ext_getElem?
theorem XS:type_of%@List.flatMap_cons:=@List.flatMap_cons
theorem XT:type_of%@Option.map_some:=@Option.map_some
theorem XU:type_of%@Bool.or_eq_true:=@Bool.or_eq_true
theorem XV:type_of%@List.length_eq_zero_iff:=@List.length_eq_zero_iff
theorem XW:type_of%@Int.eq_ofNat_of_zero_le:=@Int.eq_ofNat_of_zero_le
theorem XX:type_of%@Int.tmod_eq_emod_of_nonneg:=@Int.tmod_eq_emod_of_nonneg
theorem XY:type_of%@List.take_zero:=@List.take_zero
theorem XZ:type_of%@Bool.eq_false_iff:=@Bool.eq_false_iff
theorem X0:type_of%@List.getElem?_set_self:=@List.getElem?_set_self
theorem X1:type_of%@List.nodup_cons:=@List.nodup_cons
theorem X2:type_of%@List.getElem_mem:=@List.getElem_mem
theorem X3:type_of%@Nat.testBit_two_pow_mul_add:=@Nat.testBit_two_pow_mul_add
theorem X4:type_of%@Nat.le_trans:=@Nat.le_trans
theorem X5:type_of%@List.any_eq_true:=@List.any_eq_true
theorem X6:type_of%@List.not_mem_nil:=@List.not_mem_nil
theorem X7:type_of%@List.flatMap_append:=@List.flatMap_append
theorem X8:type_of%@Nat.mod_lt:=@Nat.mod_lt
theorem X9:type_of%@Bool.or_eq_true_iff:=@Bool.or_eq_true_iff
theorem Ya:type_of%@List.mem_cons_self:=@List.mem_cons_self
theorem Yb:type_of%@Nat.mul_le_mul_right:=@Nat.mul_le_mul_right
theorem Yc:type_of%@List.mem_of_mem_take:=@List.mem_of_mem_take
theorem Yd:type_of%@Array.getD_eq_getD_getElem?:=@Array.getD_eq_getD_getElem?
theorem Ye:type_of%@Bool.not_eq_true':=@Bool.not_eq_true'
theorem Yf:type_of%@Nat.zero_mul:=@Nat.zero_mul
theorem Yg:type_of%@Int.tdiv_eq_ediv_of_nonneg:=@Int.tdiv_eq_ediv_of_nonneg
theorem Yh:type_of%@List.length_pos_iff:=@List.length_pos_iff
theorem Yi:type_of%@List.map_eq_singleton_iff:=@List.map_eq_singleton_iff
theorem Yj:type_of%@Nat.eq_of_beq_eq_true:=@Nat.eq_of_beq_eq_true
theorem Yk:type_of%@Array.getElem?_toList:=@Array.getElem?_toList
theorem Yl:type_of%@Nat.eq_zero_or_pos:=@Nat.eq_zero_or_pos
theorem Ym:type_of%@Bool.false_ne_true:=@Bool.false_ne_true
theorem Yn:type_of%@Nat.sub_zero:=@Nat.sub_zero
theorem Yo:type_of%@Nat.succ_mul:=@Nat.succ_mul
theorem Yp:type_of%@Bool.true_and:=@Bool.true_and
theorem Yq:type_of%@List.mem_append_left:=@List.mem_append_left
theorem Yr:type_of%@List.getElem?_modify:=@List.getElem?_modify
theorem Ys:type_of%@List.getElem?_set_ne:=@List.getElem?_set_ne
theorem Yt:type_of%@List.getElem?_set:=@List.getElem?_set
theorem Yu:type_of%@Nat.add_sub_cancel_left:=@Nat.add_sub_cancel_left
theorem Yv:type_of%@List.mem_filter:=@List.mem_filter
theorem Yw:type_of%@List.range_succ:=@List.range_succ
theorem Yx:type_of%@List.map_congr_left:=@List.map_congr_left
theorem Yy:type_of%@Nat.add_zero:=@Nat.add_zero
theorem Yz:type_of%@Nat.zero_le:=@Nat.zero_le
theorem YA:type_of%@Nat.one_mul:=@Nat.one_mul
theorem YB:type_of%@Bool.not_eq_true:=@Bool.not_eq_true
theorem YC:type_of%@List.mem_flatMap:=@List.mem_flatMap
theorem YD:type_of%@Nat.pos_of_ne_zero:=@Nat.pos_of_ne_zero
theorem YE:type_of%@Nat.le_of_ble_eq_true:=@Nat.le_of_ble_eq_true
theorem YF:type_of%@List.take_append_drop:=@List.take_append_drop
theorem YG:type_of%@List.forIn_cons:=@List.forIn_cons
theorem YH:type_of%@List.length_set:=@List.length_set
theorem YI:type_of%@List.size_toArray:=@List.size_toArray
theorem YJ:type_of%@Nat.add_mul:=@Nat.add_mul
theorem YK:type_of%@Int.le_refl:=@Int.le_refl
theorem YL:type_of%@List.all_cons:=@List.all_cons
theorem YM:type_of%@Bool.false_or:=@Bool.false_or
theorem YN:type_of%@Nat.testBit_two_pow:=@Nat.testBit_two_pow
theorem YO:type_of%@List.drop_succ_cons:=@List.drop_succ_cons
theorem YP:type_of%@Nat.add_one_sub_one:=@Nat.add_one_sub_one
theorem YQ:type_of%@List.mem_map_of_mem:=@List.mem_map_of_mem
theorem YR:type_of%@List.length_drop:=@List.length_drop
theorem YS:type_of%@List.prefix_refl:=@List.prefix_refl
theorem YT:type_of%@Bool.or_false:=@Bool.or_false
theorem YU:type_of%@Prod.mk.injEq:=@Prod.mk.injEq
abbrev PH:=Nat->Option Obj
namespace PH
def set (F:PH) (b:Nat) (o:Obj):PH:=λx=>if x=b then Y3 o else F x
def cell (F:PH) (a:Addr):Option Value:=
 match F a.block with
 |some (Y4 c _ _)=>if a.spot.isSome then Y5 else c[a.off]?
 |_=>Y5
def le (F G:PH):Prop:=∀b o,F b=Y3 o->G b=Y3 o
end PH
structure Ev where
 os:Os
 tape:Nat->Question->Nat
 output:Array (Nat×ByteArray)
 fr:PH
structure Sat (e:Ev) (w:World) (F:PH):Prop where
 os:w.os=e.os
 tape:w.tape=e.tape
 output:w.output=e.output
 heap:∀b o,F b=Y3 o->w.heap[b]? =Y3 o
 frame:∀b o,e.fr b=Y3 o->F b=Y5/\w.heap[b]? =Y3 o
def ak (v:Value):Prop:=(∀xs,v≠.agg xs)/\(∀xs,v≠.tuple xs)
def frz (fr:Nat×Nat) (i:Nat):Bool:=fr.1<=i && i<fr.2
def jZ:Obj->Option (TypeId×Nat)
 | Y4 c e _=>Y3 (e,c.size)
 |_=>Y5
def uq (o:Obj) (i:Nat):Bool:=
 match o with
 | Y4 _ _ fr=>frz fr i
 |_=>Y6
def aF {α:Type} (P:Program):Sem α->PH->(α->PH->Prop)->Prop
 | .pure a,F,Q=>Q a F
 | .load _ a k,F,Q=>∃v,F.cell a=Y3 v/\aF P (k v) F Q
 | .store _ a v k,F,Q=>ak v/\∃c e fr,F a.block=Y3 (Y4 c e fr)/\a.spot=Y5/\a.off<c.size/\frz fr a.off=Y6/\
   aF P k (F.set a.block (Y4 (c.setIfInBounds a.off v) e fr)) Q
 | .new o k,F,Q=>∀b,F b=Y5->aF P (k b) (F.set b o) Q
 | .shape r k,F,Q=>∃o,F r=Y3 o/\aF P (k (jZ o)) F Q
 | .freeze a n k,F,Q=>if n=0 then aF P k F Q else ∃c e fr,F a.block=Y3 (Y4 c e fr)/\
   aF P k (F.set a.block (Y4 c e (if fr.1==fr.2 then (a.off,a.off+n) else (min fr.1 a.off,max fr.2 (a.off+n))))) Q
 | .frozen a k,F,Q=>∃o,F a.block=Y3 o/\aF P (k (uq o a.off)) F Q
 | .getObj r k,F,Q=>∃o,F r=Y3 o/\(∀c e fr,o≠Y4 c e fr)/\aF P (k o) F Q
 | .setObj r o k,F,Q=>∃o',F r=Y3 o'/\(∀c e fr,o'≠Y4 c e fr)/\aF P k (F.set r o) Q
 | .choose q k,F,Q=>if q.forced then aF P (k 0) F Q else ∀t,aF P (k (q.cut t)) F Q
 | .sys _ _,_,_=>False
 | .program k,F,Q=>aF P (k P) F Q
 | .mark _ k,F,Q=>aF P k F Q
 | .halt _,_,_=>False
section
variable {e:Ev} {w:World} {F:PH}
theorem Sat.cell (h:Sat e w F) {a:Addr} {v:Value} (hc:F.cell a=Y3 v):w.cell? a=Y3 v:=by
 unfold PH.cell at hc;unfold World.cell?;split at hc
 ·rename_i c t fr hb;rw [h.heap _ _ hb];exact hc
 ·cases hc
theorem Sat.lt (h:Sat e w F) {b:Nat} {o:Obj} (hb:F b=Y3 o):b<w.heap.size:=by have:=h.heap _ _ hb;exact (Array.getElem?_eq_some_iff.1 this).1
theorem Sat.fresh (h:Sat e w F):F w.heap.size=Y5:=by
 cases hb:F w.heap.size with
 |none=>rfl
 |some o=>exact absurd (h.lt hb) (by omega)
theorem Sat.push (h:Sat e w F) (o:Obj):Sat e {w with heap:=w.heap.push o} (F.set w.heap.size o):=by
 refine ⟨h.os,h.tape,h.output,λb o' hb=> ?_,λb o' hb=> ?_⟩
 ·unfold PH.set at hb;split at hb
  ·rename_i hbs;subst hbs;simpa using hb
  ·rename_i hbs;have h1:=h.heap _ _ hb;have h2:=h.lt hb;show (w.heap.push o)[b]? =Y3 o';rw [Array.getElem?_push,Υ (by omega)];exact h1
 ·obtain ⟨h1,h2⟩:=h.frame b o' hb;have hlt:=(Array.getElem?_eq_some_iff.1 h2).1;refine ⟨?_,?_⟩
  ·unfold PH.set;rw [Υ (by omega)];exact h1
  ·show (w.heap.push o)[b]? =Y3 o';rw [Array.getElem?_push,Υ (by omega)];exact h2
theorem Sat.modify (h:Sat e w F) {r:Nat} {o o0:Obj} (hr:F r=Y3 o0) (heap':Array Obj) (h1:heap'[r]? =Y3 o) (h2:∀b,b≠r->heap'[b]? =w.heap[b]?):
  Sat e {w with heap:=heap'} (F.set r o):=by
 refine ⟨h.os,h.tape,h.output,λb o' hb=> ?_,λb o' hb=> ?_⟩
 ·unfold PH.set at hb;split at hb
  ·rename_i hbs;subst hbs;exact h1.trans hb
  ·rename_i hbs;exact (h2 b hbs).trans (h.heap _ _ hb)
 ·obtain ⟨h3,h4⟩:=h.frame b o' hb;have hb':b≠r:=λe=>by rw [e,hr] at h3;cases h3
  exact ⟨by unfold PH.set;rw [Υ hb'];exact h3,(h2 b hb').trans h4⟩
theorem Sat.drawn (h:Sat e w F) (n:Nat):Sat e {w with drawn:=n} F:=⟨h.os,h.tape,h.output,h.heap,h.frame⟩
theorem Au {α:Type} {P:Program} {e:Ev} (s:Sem α):∀(F:PH) (w:World) (Q:α->PH->Prop),aF P s F Q->Sat e w F->
  ∃a w' F',s.run P w=.ok a w'/\Sat e w' F'/\Q a F':=by
 induction s with
 |pure a=>intro F w Q h hs;exact ⟨a,w,F,rfl,hs,h⟩
 |load m a k ih=>intro F w Q h hs;obtain ⟨v,hc,h⟩:=h;simp only [Sem.run,hs.cell hc];exact ih v F w Q h hs
 |store m a v k ih=>
  intro F w Q h hs;obtain ⟨⟨h1,h2⟩,c,t,fr,hb,hsp,hlt,hfr,h⟩:=h;have hheap:=hs.heap _ _ hb;have hcell:w.cell? a=Y3 c[a.off]:=by simp [World.cell?,hheap,hsp,hlt]
  have hfz:w.frozen? a=Y6:=by obtain ⟨lo,hi⟩:=fr;simpa [World.frozen?,hheap,frz] using hfr
  have hrun:(Sem.store m a v k).run P w=k.run P (w.setCell a v):=by cases v<;>first|exact absurd rfl (h1 _)|exact absurd rfl (h2 _)|simp [Sem.run,hcell,hfz]
  rw [hrun];refine ih _ _ Q h ?_;have:w.setCell a v={w with heap:=(w.setCell a v).heap}:=rfl;rw [this];refine hs.modify hb _ ?_ (λb hb'=> ?_)
  ·simp [World.setCell,Array.getElem?_modify,hheap,hsp]
  ·simp only [World.setCell,Array.getElem?_modify];rw [Υ (λh=>hb' h.symm)]
 |new o k ih=>intro F w Q h hs;exact ih _ _ _ Q (h _ hs.fresh) (hs.push o)
 |shape r k ih=>
  intro F w Q h hs;obtain ⟨o,hb,h⟩:=h;have hheap:=hs.heap _ _ hb;have:w.shape? r=(jZ o):=by unfold World.shape?;rw [hheap];cases o<;>simp [jZ]
  simp only [Sem.run,this];exact ih _ F w Q h hs
 |freeze a n k ih=>
  intro F w Q h hs;simp only [Sem.run,World.freeze];unfold aF at h;split at h
  ·rename_i hn;rw [Χ hn];exact ih F w Q h hs
  ·rename_i hn;rw [Υ hn];obtain ⟨c,t,fr,hb,h⟩:=h;have hheap:=hs.heap _ _ hb;refine ih _ _ Q h (hs.modify hb _ ?_ (λb hb'=> ?_))
   ·simp [Array.getElem?_modify,hheap]
   ·rw [Array.getElem?_modify,Υ (λh=>hb' h.symm)]
 |frozen a k ih=>
  intro F w Q h hs;obtain ⟨o,hb,h⟩:=h;have hheap:=hs.heap _ _ hb;have:w.frozen? a=(uq o a.off):=by unfold World.frozen?;rw [hheap];cases o<;>simp [uq,frz]
  simp only [Sem.run,this];exact ih _ F w Q h hs
 |getObj r k ih=>
  intro F w Q h hs;obtain ⟨o,hb,hn,h⟩:=h;have hheap:=hs.heap _ _ hb;have:(Sem.getObj r k).run P w=(k o).run P w:=by cases o<;>first|exact absurd rfl (hn _ _ _)|simp only [Sem.run,hheap]
  rw [this];exact ih _ F w Q h hs
 |setObj r o k ih=>
  intro F w Q h hs;obtain ⟨o',hb,hn,h⟩:=h;have hheap:=hs.heap _ _ hb;have hlt:=hs.lt hb;have:(Sem.setObj r o k).run P w=k.run P {w with heap:=w.heap.setIfInBounds r o}:=by cases o'<;>first|exact absurd rfl (hn _ _ _)|simp only [Sem.run,hheap]
  rw [this];refine ih _ _ Q h (hs.modify hb _ ?_ (λb hb'=> ?_))
  ·simp [hlt]
  ·rw [Array.getElem?_setIfInBounds_ne (λh=>hb' h.symm)]
 |choose q k ih=>
  intro F w Q h hs;simp only [Sem.run];unfold aF at h;split
  ·rename_i hf;rw [Χ hf] at h;exact ih _ F w Q h hs
  ·rename_i hf;rw [Υ hf] at h;exact ih _ F _ Q (h _) (hs.drawn _)
 |sys c k ih=>intro F w Q h;exact h.elim
 |program k ih=>intro F w Q h hs;exact ih _ F w Q h hs
 |mark m k ih=>intro F w Q h hs;exact ih F w Q h hs
 |halt h=>intro F w Q h;exact h.elim
end
theorem ur {α β:Type} {P:Program} (s:Sem α) (f:α->Sem β):∀(F:PH) (Q:β->PH->Prop),
  aF P (s.bind f) F Q↔aF P s F (λa F'=>aF P (f a) F' Q):=by
 induction s with
 |pure a=>intro F Q;rfl
 |load m a k ih=>intro F Q;simp only [Sem.bind,aF,ih]
 |store m a v k ih=>intro F Q;simp only [Sem.bind,aF,ih]
 |new o k ih=>intro F Q;simp only [Sem.bind,aF,ih]
 |shape r k ih=>intro F Q;simp only [Sem.bind,aF,ih]
 |freeze a n k ih=>intro F Q;simp only [Sem.bind,aF,ih]
 |frozen a k ih=>intro F Q;simp only [Sem.bind,aF,ih]
 |getObj r k ih=>intro F Q;simp only [Sem.bind,aF,ih]
 |setObj r o k ih=>intro F Q;simp only [Sem.bind,aF,ih]
 |choose q k ih=>intro F Q;simp only [Sem.bind,aF,ih]
 |sys c k ih=>intro F Q;simp only [Sem.bind,aF]
 |program k ih=>intro F Q;simp only [Sem.bind,aF,ih]
 |mark m k ih=>intro F Q;simp only [Sem.bind,aF,ih]
 |halt h=>intro F Q;simp only [Sem.bind,aF]
theorem aB {α β:Type} {P:Program} (s:Sem α) (f:α->Sem β) (F:PH) (Q:β->PH->Prop):
  aF P (s>>=f) F Q↔aF P s F (λa F'=>aF P (f a) F' Q):=ur s f F Q
theorem dn {α:Type} {P:Program} (s:Sem α):∀(F:PH) {Q Q':α->PH->Prop},aF P s F Q->(∀a F,Q a F->Q' a F)->aF P s F Q':=by
 induction s with
 |pure a=>intro F Q Q' h hq;exact hq _ _ h
 |load m a k ih=>rintro F Q Q' ⟨v,h1,h⟩ hq;exact ⟨v,h1,ih v F h hq⟩
 |store m a v k ih=>rintro F Q Q' ⟨h1,c,e,fr,h2,h3,h4,h5,h⟩ hq;exact ⟨h1,c,e,fr,h2,h3,h4,h5,ih _ h hq⟩
 |new o k ih=>intro F Q Q' h hq b hb;exact ih _ _ (h b hb) hq
 |shape r k ih=>rintro F Q Q' ⟨o,h1,h⟩ hq;exact ⟨o,h1,ih _ F h hq⟩
 |freeze a n k ih=>
  intro F Q Q' h hq;unfold aF at h ⊢;split at h
  ·rename_i hn;rw [Χ hn];exact ih F h hq
  ·rename_i hn;rw [Υ hn];obtain ⟨c,e,fr,h1,h⟩:=h;exact ⟨c,e,fr,h1,ih _ h hq⟩
 |frozen a k ih=>rintro F Q Q' ⟨o,h1,h⟩ hq;exact ⟨o,h1,ih _ F h hq⟩
 |getObj r k ih=>rintro F Q Q' ⟨o,h1,h2,h⟩ hq;exact ⟨o,h1,h2,ih _ F h hq⟩
 |setObj r o k ih=>rintro F Q Q' ⟨o',h1,h2,h⟩ hq;exact ⟨o',h1,h2,ih _ h hq⟩
 |choose q k ih=>
  intro F Q Q' h hq;unfold aF at h ⊢;split at h
  ·rename_i hn;rw [Χ hn];exact ih _ F h hq
  ·rename_i hn;rw [Υ hn];exact λt=>ih _ F (h t) hq
 |sys c k ih=>intro F Q Q' h;exact h.elim
 |program k ih=>intro F Q Q' h hq;exact ih _ F h hq
 |mark m k ih=>intro F Q Q' h hq;exact ih F h hq
 |halt h=>intro F Q Q' h;exact h.elim
abbrev En:=Nat->Value
def upd (E:En) (d:Nat) (v:Value):En:=λt=>bif Nat.beq t d then v else E t
def cV (E:En):Option Tmp->Value->En
 |some d,v=>upd E d v
 |none,_=>E
def ev (E:En):Operand->Value
 | .tmp t=>E t
 | .const v=>v
 | .global g=> .pointer (Y3 ⟨g,0,Y5⟩)
 | .func f=> .func (.func f) #[] #[]
def OZ (args:List Value):En:=λt=>args.getD t undef
def Av (P:Program) (d:Deferred):Prop:=∃fv cap f args,d.target=.fn fv cap/\∀w,(invoke d.target d.args).run P w=.ok (.enter f args) w/\
 CallsD P f args .returning w λe u' w'=>(∃v,e=.returned v)/\u'=.returning/\w'=w
theorem jA {P:Program} {fn:Func} {tmps:Array Value} {w:World} {v:Value} {R:Ending->World->Prop} (hr:(results fn tmps).run P w=.ok v w) (hR:R (.returned v) w):
  ∀ds:List Deferred,(∀d∈ds,Av P d)->Leaves P fn tmps R ds .returning w
 |[],_=>⟨v,hr,hR⟩
 |d::ds,h=>by obtain ⟨fv,cap,f,args,h1,h2⟩:=h d (by simp);refine ⟨by simp,fv,cap,f,args,h1,(h2 w).1,(h2 w).2.mono ?_⟩;rintro e u' w' ⟨⟨v',rfl⟩,rfl,rfl⟩;exact jA hr hR ds λd hd=>h d (Xo _ hd)
structure Ag (P:Program) (n:Nat) (a:Act) (E:En):Prop where
 size:a.tmps.size=n
 defers:∀d∈a.defers,Av P d
 val:∀t,a.tmps.getD t undef=E t
theorem Ag.eval {P:Program} {n:Nat} {a:Act} {E:En} (h:Ag P n a E):a.eval=ev E:=by
 funext x;cases x with
 |tmp t=>exact h.val t
 |_=>rfl
def fK (n:Nat):Option Tmp->Bool
 |some d=>Nat.blt d n
 |none=>Y8
theorem kR {i j:Nat} (h:¬i=j):Nat.beq i j=Y6:=by
 cases hb:Nat.beq i j with
 |false=>rfl
 |true=>exact absurd (Yj hb) h
theorem Ag.put {P:Program} {n:Nat} {a:Act} {E:En} (h:Ag P n a E) {d:Option Tmp} (v:Value) (hd:fK n d=Y8):Ag P n (a.put d v) (cV E d v):=by
 cases d with
 |none=>exact h
 |some d=>
  have hlt:d<n:=by simpa [fK,Nat.blt_eq] using hd
  refine ⟨by simp [Act.put,h.size],h.defers,λt=> ?_⟩;simp only [Act.put,cV,upd];have hv:=h.val t;by_cases ht:t=d
  ·subst ht;simp [h.size,hlt]
  ·have:Nat.beq t d=Y6:=kR ht;simp only [this,cond_false];rw [<- hv];simp [Array.getElem?_setIfInBounds_ne (Ne.symm ht)]
def QL (P:Program) (e:Ev) (n:Nat) (Q:Exit->En->PH->Prop):Exit->Act->World->Prop:=λx a w=>∃E F,Ag P n a E/\Sat e w F/\Q x E F
def ai (P:Program) (f:FuncId) (args:Array Value) (F:PH) (R:Value->PH->Prop):Prop:=
 ∀e w,Sat e w F->Calls P f args w λen w'=>∃v F',en=.returned v/\Sat e w' F'/\R v F'
def PH.and (F H:PH):PH:=λb=>match F b with|some o=>Y3 o|none=>H b
theorem PH.and_left {F H:PH} {b:Nat} {o:Obj} (h:F b=Y3 o):(F.and H) b=Y3 o:=by simp [PH.and,h]
theorem PH.and_right {F H:PH} {b:Nat} (h:F b=Y5):(F.and H) b=H b:=by simp [PH.and,h]
theorem ai.beside {P:Program} {f:FuncId} {args:Array Value} {F H:PH} {R:Value->PH->Prop} (h:ai P f args F R) (hd:∀b o,H b=Y3 o->F b=Y5):
  ai P f args (F.and H) λv F'=>∃G,R v G/\F'=G.and H/\∀b o,H b=Y3 o->G b=Y5:=by
 intro e w hs;have hand:∀{F:PH} {b:Nat},(F.and H) b=Y5->F b=Y5/\H b=Y5:=λ{F b} hb=>by
  unfold PH.and at hb;split at hb
  ·cases hb
  ·rename_i hf;exact ⟨hf,hb⟩
 refine (h ⟨e.os,e.tape,e.output,e.fr.and H⟩ w ⟨hs.os,hs.tape,hs.output,λb o hb=>hs.heap b o (PH.and_left hb),λb o hb=> ?_⟩).mono ?_
 ·simp only [PH.and] at hb;split at hb
  ·rename_i o' ho';cases hb;obtain ⟨h1,h2⟩:=hs.frame b _ ho';exact ⟨(hand h1).1,h2⟩
  ·have hn:=hd b o hb;exact ⟨hn,hs.heap b o ((PH.and_right hn).trans hb)⟩
 ·rintro en w' ⟨v,G,rfl,hg,hr⟩;have hdis:∀b o,H b=Y3 o->G b=Y5:=λb o hb=>by
   have hx:∃o',(e.fr.and H) b=Y3 o':=by
    cases hf:e.fr b with
    |none=>exact ⟨o,(PH.and_right hf).trans hb⟩
    |some o'=>exact ⟨o',PH.and_left hf⟩
   obtain ⟨o',ho'⟩:=hx;exact (hg.frame b o' ho').1
  refine ⟨v,_,rfl,⟨hg.os,hg.tape,hg.output,λb o hb=> ?_,λb o hb=> ?_⟩,G,hr,rfl,hdis⟩
  ·cases hG:G b with
   |some o'=>rw [PH.and_left hG] at hb;cases hb;exact hg.heap b _ hG
   |none=>
    rw [PH.and_right hG] at hb;have hfr:e.fr b=Y5:=by
     cases hf:e.fr b with
     |none=>rfl
     |some o'=>have:=(hand (hs.frame b o' hf).1).2;rw [hb] at this;cases this
    exact (hg.frame b o ((PH.and_right hfr).trans hb)).2
  ·obtain ⟨h1,_⟩:=hs.frame b o hb;have h3:=(hand h1).2;obtain ⟨h4,h5⟩:=hg.frame b o (PH.and_left hb);exact ⟨by rw [PH.and_right h4];exact h3,h5⟩
theorem ai.mono {P:Program} {f:FuncId} {args:Array Value} {F:PH} {R R':Value->PH->Prop} (h:ai P f args F R) (hr:∀v F',R v F'->R' v F'):
  ai P f args F R':=λe w hs=>(h e w hs).mono λ_ _ ⟨v,F',h1,h2,h3⟩=>⟨v,F',h1,h2,hr v F' h3⟩
def HC (P:Program) (n:Nat) (c:Code) (Q:Exit->En->PH->Prop) (E:En) (F:PH):Prop:=
 ∀e a w,Ag P n a E->Sat e w F->c.wp P (QL P e n Q) a w
def HL (P:Program) (n:Nat) (ops:Array Oper) (Q:Exit->En->PH->Prop) (l:List Oper) (E:En) (F:PH):Prop:=
 ∀e a w,Ag P n a E->Sat e w F->wpList P ops (QL P e n Q) l a w
abbrev Ny (K:En->PH->Prop) (Q:Exit->En->PH->Prop):Exit->En->PH->Prop
 | .normal,E,F=>K E F
 |x,E,F=>Q x E F
abbrev Hm (id:Nat) (Q:Exit->En->PH->Prop):Exit->En->PH->Prop
 | .exit i,E,F=>bif Nat.beq i id then Q .normal E F else Q (.exit i) E F
 |x,E,F=>Q x E F
section
variable {P:Program} {n:Nat} {Q:Exit->En->PH->Prop} {E:En} {F:PH}
theorem Kb (h:Q .normal E F):HC P n .skip Q E F:=λ_ _ _ ag st=>wp_skip ⟨E,F,ag,st,h⟩
theorem O0 (h:Q .ret E F):HC P n .ret Q E F:=λ_ _ _ ag st=>wp_ret ⟨E,F,ag,st,h⟩
theorem Kc {id:Nat} (h:Q (.exit id) E F):HC P n (.exit id) Q E F:=λ_ _ _ ag st=>wp_exit ⟨E,F,ag,st,h⟩
theorem Aw {x y:Code} (h:HC P n x (Ny (HC P n y Q) Q) E F):HC P n (.seq x y) Q E F:=λe a w ag st=>
 wp_seq (wp_mono (h e a w ag st) λex a' w' ⟨E',F',ag',st',q⟩=>by
  cases ex with
  |normal=>exact q e a' w' ag' st'
  |_=>exact ⟨E',F',ag',st',q⟩)
theorem qh {c:Operand} {x y:Code} {t:Bool} (hc:ev E c=.bool t) (h1:t=Y8->HC P n x Q E F) (h2:t=Y6->HC P n y Q E F):
  HC P n (.cond c x y) Q E F:=λe a w ag st=>
 wp_cond_split (by rw [ag.eval];exact hc) (λht=>h1 ht e a w ag st) (λht=>h2 ht e a w ag st)
theorem Hn {l:Nat} (h:Q .normal E F):HC P n (.label l) Q E F:=λ_ _ _ ag st=>wp_label ⟨E,F,ag,st,h⟩
def Wx (Q:Exit->En->PH->Prop):Exit->En->PH->Prop
 | .goto _,_,_=>False
 |x,E,F=>Q x E F
theorem Ho {c:Code} (h:HC P n c (Wx Q) E F):HC P n (.scope c) Q E F:=λe a w ag st=>
 wp_scope_straight (wp_mono (h e a w ag st) λex a' w' ⟨E',F',ag',st',q⟩=>by
  cases ex with
  |goto l=>exact q.elim
  |_=>exact ⟨E',F',ag',st',q⟩)
theorem Hp {id:Nat} {c:Code} (h:HC P n c (Hm id Q) E F):HC P n (.block id c) Q E F:=λe a w ag st=>
 wp_block (wp_mono (h e a w ag st) λex a' w' ⟨E',F',ag',st',q⟩=>by
  cases ex with
  |exit i=>
   simp only [Exit.inBlock,Hm] at q ⊢;by_cases hi:i=id
   ·subst hi;have:Nat.beq i i=Y8:=by simp
    simp only [this,cond_true] at q;rw [Χ rfl];exact ⟨E',F',ag',st',q⟩
   ·have:Nat.beq i id=Y6:=kR hi;simp only [this,cond_false] at q;rw [Υ hi];exact ⟨E',F',ag',st',q⟩
  |_=>exact ⟨E',F',ag',st',q⟩)
theorem Ke {c:Code} (I:Nat->En->PH->Prop) (m0:Nat) (h0:I m0 E F)
  (round:∀m E F,I m E F->HC P n c (Ny (λE' F'=>∃m',m'<m/\I m' E' F') Q) E F):HC P n (.loop c) Q E F:=by
 intro e a w ag st b k cs;have key:∀m a w E F,Ag P n a E->Sat e w F->I m E F->
   ∃ex a' w',QL P e n Q ex a' w'/\Arrives P (lone (b.at a (.code c::.inLoop c::k)) cs w) b k cs ex a' w':=by
  intro m;induction m using Nat.strongRecOn with
  |_ m ih=>
   intro a w E F ag st hI;obtain ⟨ex,a₁,w₁,hq,harr⟩:=round m E F hI e a w ag st b (.inLoop c::k) cs;cases ex with
   |normal=>obtain ⟨E',F',ag',st',m',hlt,hI'⟩:=hq;obtain ⟨e₂,a₂,w₂,hq₂,harr₂⟩:=ih m' hlt a₁ w₁ E' F' ag' st' hI';exact ⟨e₂,a₂,w₂,hq₂,.of_steps (Steps.trans harr (.one step_inLoop)) harr₂⟩
   |exit id=>exact ⟨_,a₁,w₁,hq,.pass (x:=.inLoop c) rfl (λ_ _=> .inl (by simp)) harr⟩
   |goto l=>exact ⟨_,a₁,w₁,hq,.pass (x:=.inLoop c) rfl (λ_ _=> .inl (by simp)) harr⟩
   |ret=>exact ⟨_,a₁,w₁,hq,.pass (x:=.inLoop c) rfl (λ_ _=> .inl (by simp)) harr⟩
   |panic ch=>exact ⟨_,a₁,w₁,hq,.pass (x:=.inLoop c) rfl (λ_ _=> .inl (by simp)) harr⟩
   |outgrown=>exact ⟨_,a₁,w₁,hq,.pass (x:=.inLoop c) rfl (λ_ _=> .inl (by simp)) harr⟩
 obtain ⟨ex,a',w',hq,harr⟩:=key m0 a w E F ag st h0;exact ⟨ex,a',w',hq,.of_steps (.one step_loop) harr⟩
theorem Ef {id:Nat} {l:List Oper} (h:HL P n l.toArray Q l E F):HC P n (.region id l.toArray Y6) Q E F:=λe a w ag st=>
 wp_region_lit (h e a w ag st)
def bL (P:Program) (K:En->PH->Prop) (o:Oper) (E:En):Next->PH->Prop
 | .value v,F=>K (cV E o.dst v) F
 | .skip,F=>K (cV E o.dst undef) F
 | .enter f args,F=>ai P f args F λv F'=>K (cV E o.dst v) F'
 | .defer d,F=>Av P d/\K (cV E o.dst undef) F
 |_,_=>False
theorem Nz {o:Oper} {e:Ev} {a:Act} {w:World} {K:En->PH->Prop} {K':Act->World->Prop} {Q':Exit->Act->World->Prop} (ag:Ag P n a E) (st:Sat e w F) (hd:fK n o.dst=Y8)
  (hk:∀a w E F,Ag P n a E->Sat e w F->K E F->K' a w)
  (h:aF P (execOp (ev E) o) F (bL P K o E)):o.wp P a w K' Q':=by
 obtain ⟨nx,w',F',hr,st',hq⟩:=Au _ F w _ h st;unfold Oper.wp;rw [ag.eval,hr];cases nx with
 |value v=>exact hk _ _ _ _ (ag.put v hd) st' hq
 |skip=>exact hk _ _ _ _ (ag.put undef hd) st' hq
 |enter f args=>refine (hq e w' st').mono ?_;rintro _ w'' ⟨v,F'',rfl,st'',hK⟩;exact hk _ _ _ _ (ag.put v hd) st'' hK
 |defer d=>have ag2:Ag P n {a with defers:=d::a.defers} E:=⟨ag.size,λd' h=>(W6.1 h).elim (λe=>e▸hq.1) (ag.defers d'),ag.val⟩;exact hk _ _ _ _ (ag2.put undef hd) st' hq.2
 |_=>exact hq.elim
def yE (ops:Array Oper) (E:En) (j:Nat):Option Bool:=
 match (ops[j]?).bind (·.dst) with
 |some t=>(match E t with| .bool b=>Y3 b|_=>Y5)
 |none=>Y5
theorem Ag.yE_eq {a:Act} (h:Ag P n a E) (ops:Array Oper) (j:Nat):yielded ops a.tmps j=yE ops E j:=by
 unfold yielded yE;cases (ops[j]?).bind (·.dst) with
 |none=>rfl
 |some t=>
  have hv:=h.val t;simp only [Option.bind_some];rw [<- hv,Yd];cases a.tmps[t]? with
  |none=>rfl
  |some v=>cases v<;>rfl
theorem Ag.wanted_eq {a:Act} (h:Ag P n a E) (ops:Array Oper) (o:Oper):Region.wanted o (yielded ops a.tmps)=Region.wanted o (yE ops E):=by
 unfold Region.wanted;cases o.guard with
 |none=>rfl
 |some g=>simp only [h.yE_eq]
theorem O1 {ops:Array Oper} (h:Q .normal E F):HL P n ops Q [] E F:=λ_ _ _ ag st=>wpList_nil ⟨E,F,ag,st,h⟩
theorem NA {ops:Array Oper} {o:Oper} {l:List Oper} (hw:Region.wanted o (yE ops E)=Y8) (hd:fK n o.dst=Y8)
  (h:aF P (execOp (ev E) o) F (bL P (HL P n ops Q l) o E)):HL P n ops Q (o::l) E F:=λe a w ag st=>by
 unfold wpList;rw [ag.wanted_eq,Χ hw];exact .inl (Nz ag st hd (λa w E F ag st hk=>hk e a w ag st) h)
theorem Kf {ops:Array Oper} {o:Oper} {l:List Oper} (hw:Region.wanted o (yE ops E)=Y6) (hd:fK n o.dst=Y8)
  (h:HL P n ops Q l (cV E o.dst undef) F):HL P n ops Q (o::l) E F:=λe a w ag st=>by
 unfold wpList;rw [ag.wanted_eq,Υ (by simp [hw])];exact h e _ _ (ag.put undef hd) st
def sg (P:Program) (fn:Func) (E:En) (F:PH) (v:Value):Prop:=
 ∀e w tmps,Sat e w F->(∀t:Nat,Array.getD tmps t undef=E t)->(results fn tmps).run P w=.ok v w
abbrev Kg (P:Program) (fn:Func) (R:Value->PH->Prop):Exit->En->PH->Prop
 | .normal,E,F| .ret,E,F=>∃v,sg P fn E F v/\R v F
 |_,_,_=>False
theorem Kh {f:FuncId} {fn:Func} {c:Code} {args:List Value} {R:Value->PH->Prop} (hf:P.funcs[f]? =Y3 fn) (hb:fn.body=Y3 c)
  (hn:fn.ntmps=n) (hs:Nat.ble args.length n=Y8) (h:HC P n c (Kg P fn R) (OZ args) F):ai P f args.toArray F R:=λe w st=>by
 have hs':args.length<=n:=by simpa [Nat.ble_eq] using hs
 refine calls_of_wp_defers hf hb ?_;refine wp_mono (h e _ w ⟨?_,λ_ h=>(by cases h),λt=> ?_⟩ st) ?_
 ·simp [hn];omega
 ·simp only [OZ,Yd,Xx,Array.getElem?_append,YI,Array.getElem?_replicate];by_cases ht:t<args.length
  ·simp [ht]
  ·simp only [ht,if_false];rw [XC (by omega)];split<;>rfl
 ·rintro ex a' w' ⟨E',F',ag',st',q⟩;cases ex with
  |normal=>obtain ⟨v,hr,hR⟩:=q;exact jA (hr e w' _ st' ag'.val) ⟨v,F',rfl,st',hR⟩ _ ag'.defers
  |ret=>obtain ⟨v,hr,hR⟩:=q;exact jA (hr e w' _ st' ag'.val) ⟨v,F',rfl,st',hR⟩ _ ag'.defers
  |_=>exact q.elim
end
section
variable {P:Program} {ops:Array Oper} {md:Region.Mode}
def Oper.waits (md:Region.Mode) (o:Oper) (r:Nat):Bool:=o.after.toList.any λe=>Region.binds md e && e.on==r
theorem Ax {o:Oper} {r:Nat}:Oper.waits md o r=Y6↔∀e∈o.after,Region.binds md e=Y8->e.on≠r:=by
 unfold Oper.waits;rw [<- YB,X5];constructor
 ·intro h x hx hb heq;exact h ⟨x,by simpa using hx,by simp [hb,heq]⟩
 ·rintro h ⟨x,hx,hp⟩;simp only [XJ,beq_iff_eq] at hp;exact h x (by simpa using hx) hp.1 hp.2
abbrev cv:=List (Nat×(World->Prop))
def cv.hold (Sp:cv) (w:World):Prop:=∀r∈Sp,r.2 w
def cv.rest (md:Region.Mode) (o:Oper) (Sp:cv):cv:=Sp.filter λr=> !Oper.waits md o r.1
def iO (P:Program) (md:Region.Mode) (ops:Array Oper) (Q:Exit->Act->World->Prop):Nat->Array Bool->cv->Act->World->Prop
 |0,listed,_,a,w=>Region.ready md ops listed=[]/\Q .normal a w
 |fuel+1,listed,Sp,a,w=>
  (Region.ready md ops listed=[]->Q .normal a w)/\
  ∀i∈Region.ready md ops listed,∀o,ops[i]? =Y3 o->
   wpOp P ops Q i (λa' w'=>(Sp.rest md o).hold w'/\iO P md ops Q fuel (listed.setIfInBounds i Y8) (Sp.rest md o) a' w') a w
variable {Q:Exit->Act->World->Prop}
theorem sj:∀(fuel:Nat) (listed:Array Bool) (Sp:cv) (a:Act) (w:World),iO P md ops Q fuel listed Sp a w->wpAny P md ops Q fuel listed a w
 |0,_,_,_,_,h=>h
 |fuel+1,_,_,_,_,h=>⟨h.1,λi hi=>by
   obtain ⟨_,o,ho,_⟩:=mem_ready.1 hi
   exact wpOp_mono (λa' w' h'=>sj fuel _ _ a' w' h'.2) (h.2 i hi o ho)⟩
theorem cv.rest_sub {o:Oper} {Sp Sp':cv} (h:∀r∈Sp',r∈Sp):∀r∈cv.rest md o Sp',r∈cv.rest md o Sp:=by intro r hr;unfold cv.rest at*;rw [Yv] at*;exact ⟨h r hr.1,hr.2⟩
theorem sk:∀(fuel:Nat) (listed:Array Bool) (Sp Sp':cv) (a:Act) (w:World),(∀r∈Sp',r∈Sp)->iO P md ops Q fuel listed Sp a w->
  iO P md ops Q fuel listed Sp' a w
 |0,_,_,_,_,_,_,h=>h
 |fuel+1,_,_,_,_,_,hs,h=>⟨h.1,λi hi o ho=>wpOp_mono (λa' w' h'=>⟨λr hr=>h'.1 r (cv.rest_sub hs r hr),sk fuel _ _ _ a' w' (cv.rest_sub hs) h'.2⟩) (h.2 i hi o ho)⟩
theorem mB {S:World->Prop} {i:Nat} {oi:Oper} {v:Value} (hi:ops[i]? =Y3 oi) (hsel:∀(j:Nat) (o:Oper) cs b,ops[j]? =Y3 o->o.op≠.select cs b)
  (hQ:∀c a w,Q (.panic c) (a.put oi.dst v) w->Q (.panic c) a w):
  ∀(fuel:Nat) (listed:Array Bool) (Sp:cv) (a:Act) (w:World),
   (∀j oj,ops[j]? =Y3 oj->j≠i->listed.getD j Y8=Y6->(∀e∈oj.after,Region.binds md e=Y8->e.on≠i)->oi.apart ops oj=Y8)->
   i∈Region.ready md ops listed->YieldsIf P ops S oi v a->S w->Sp.hold w->
   iO P md ops Q fuel (listed.setIfInBounds i Y8) ((i,S)::Sp) (a.put oi.dst v) w->iO P md ops Q (fuel+1) listed Sp a w:=by
 intro fuel;induction fuel with
 |zero=>
  intro listed Sp a w _ hr hy hS hh H;refine ⟨λh=>(by rw [h] at hr;cases hr),λj hj oj hoj=> ?_⟩;by_cases hji:j=i
  ·subst hji;exact hy.wpOp hi hS ⟨λr hr'=>hh r (Yv.1 hr').1,H⟩
  ·have:=ready_mono hj hji;rw [H.1] at this;cases this
 |succ fuel ih=>
  intro listed Sp a w hfree hr hy hS hh H;refine ⟨λh=>(by rw [h] at hr;cases hr),λj hj oj hoj=> ?_⟩;by_cases hji:j=i
  ·subst hji;refine hy.wpOp hi hS ⟨λr hr'=>hh r (Yv.1 hr').1,?_⟩;exact sk (fuel+1) _ _ _ _ _ (λr hr'=>Xo _ (Yv.1 hr').1) H
  ·have h1:=H.2 j (ready_mono hj hji) oj hoj;obtain ⟨hjun,oj',hoj',hall⟩:=mem_ready.1 hj;obtain rfl:oj'=oj:=by rw [hoj] at hoj';exact (Xy hoj').symm
   have hnot:∀e∈oj'.after,Region.binds md e=Y8->e.on≠i:=λe he hb heq=>by
    have h1:=hall e he hb;have h0:=(mem_ready.1 hr).1;rw [heq] at h1;rcases Nat.lt_or_ge i listed.size with h'|h'
    ·simp [h'] at h0 h1;rw [h0] at h1;cases h1
    ·simp [Array.getElem?_eq_none h'] at h1
   have hw:Oper.waits md oj' i=Y6:=Ax.2 hnot;have hrest:cv.rest md oj' ((i,S)::Sp)=(i,S)::cv.rest md oj' Sp:=by unfold cv.rest;rw [List.filter_cons_of_pos (by simp [hw])]
   rw [hrest] at h1;have h2:=wpOp_putIf hoj (hfree j oj' hoj hji hjun hnot) (λcs b=>hsel i oi cs b hi) (λcs b=>hsel j oj' cs b hoj) hQ hy h1;have hfree':∀k ok,ops[k]? =Y3 ok->k≠i->(listed.setIfInBounds j Y8).getD k Y8=Y6->
     (∀e∈ok.after,Region.binds md e=Y8->e.on≠i)->oi.apart ops ok=Y8:=λk ok hk hki hun hno=>by
    refine hfree k ok hk hki ?_ hno;by_cases hjk:j=k
    ·subst hjk;exact hjun
    ·rw [getD_set_ne Y8 hjk] at hun;exact hun
   refine wpOp_mono (λa' w' h3=> ?_) h2;obtain ⟨hy',hhold,h3⟩:=h3;refine ⟨λr hr'=>hhold r (Xo _ hr'),?_⟩;refine ih (listed.setIfInBounds j Y8) _ a' w' hfree' (ready_mono hr (Ne.symm hji)) hy' (hhold _ (Ya ..)) (λr hr'=>hhold r (Xo _ hr')) ?_;rw [Array.setIfInBounds_comm _ _ hji];exact h3
end
section
variable {P:Program} {n:Nat} {Q:Exit->En->PH->Prop} {E:En} {F:PH} {ops:Array Oper}
def Ay (F:PH) (S:World->Prop):Prop:=∀e w,Sat e w F->S w
def gi (Sp:cv) (F:PH):Prop:=∀r∈Sp,Ay F r.2
def RG (P:Program) (n:Nat) (ops:Array Oper) (Q:Exit->En->PH->Prop) (fuel:Nat) (listed:Array Bool) (Sp:cv) (E:En) (F:PH):Prop:=
 ∀e a w,Ag P n a E->Sat e w F->iO P .any ops (QL P e n Q) fuel listed Sp a w
theorem Ki {id:Nat} (hm:P.follows .mixedOrders=Y8) (h:RG P n ops Q ops.size (Array.replicate ops.size Y6) [] E F):
  HC P n (.region id ops Y8) Q E F:=λe a w ag st=>
 wp_region_any hm (sj _ _ _ _ _ (h e a _ ag (st.drawn _)))
theorem Kj {fuel:Nat} {listed:Array Bool} {Sp:cv} (hr:Region.ready .any ops listed=[]) (h:Q .normal E F):RG P n ops Q fuel listed Sp E F:=
 λe a w ag st=>by
  cases fuel with
  |zero=>exact ⟨hr,E,F,ag,st,h⟩
  |succ fuel=>exact ⟨λ_=>⟨E,F,ag,st,h⟩,by rw [hr];simp⟩
def NB (P:Program) (S:World->Prop) (E:En) (o:Oper) (v:Value):Prop:=∀w,S w->(execOp (ev E) o).run P w=.ok (.value v) w
theorem C4 {S:World->Prop} {i:Nat} {oi:Oper} {v:Value} {fuel:Nat} {listed:Array Bool} {Sp:cv} (hi:ops[i]? =Y3 oi)
  (hs:Region.noSelect ops=Y8) (hf:Region.free .any ops listed i=Y8) (hr:(Region.ready .any ops listed).contains i=Y8) (hd:fK n oi.dst=Y8)
  (hp:∀c E F,¬Q (.panic c) E F) (hw:Region.wanted oi (yE ops E)=Y8) (hy:NB P S E oi v) (hS:Ay F S) (hh:gi Sp F)
  (h:RG P n ops Q fuel (listed.setIfInBounds i Y8) ((i,S)::Sp) (cV E oi.dst v) F):RG P n ops Q (fuel+1) listed Sp E F:=λe a w ag st=>
 mB hi (Region.noSelect_spec hs) (λc a w ⟨E,F,_,_,q⟩=>(hp c E F q).elim) fuel listed Sp a w (Region.free_spec hi hf) (by simpa using hr)
  (.inl ⟨by rw [ag.wanted_eq];exact hw,λw hw'=>by rw [ag.eval];exact hy w hw'⟩) (hS e w st) (λr hr=>hh r hr e w st) (h e _ w (ag.put v hd) st)
theorem jB {Q:Exit->Act->World->Prop} {md:Region.Mode} (i:Nat):∀(fuel:Nat) (listed:Array Bool) (Sp:cv) (a:Act) (w:World),iO P md ops Q fuel listed Sp a w->
  iO P md ops Q fuel listed ((i,λ_=>True)::Sp) a w
 |0,_,_,_,_,h=>h
 |fuel+1,_,Sp,_,_,h=>⟨h.1,λj hj o ho=>wpOp_mono (λa' w' h'=>by
   by_cases hw:Oper.waits md o i=Y8
   ·have:cv.rest md o ((i,λ_=>True)::Sp)=cv.rest md o Sp:=by unfold cv.rest;rw [List.filter_cons_of_neg (by simp [hw])]
    rw [this];exact h'
   ·have:cv.rest md o ((i,λ_=>True)::Sp)=(i,λ_=>True)::cv.rest md o Sp:=by unfold cv.rest;rw [List.filter_cons_of_pos (by simpa using hw)]
    rw [this];refine ⟨λr hr=> ?_,jB i fuel _ _ a' w' h'.2⟩;rcases W6.1 hr with rfl|hr
    ·trivial
    ·exact h'.1 r hr) (h.2 j hj o ho)⟩
theorem Kk {i:Nat} {oi:Oper} {v:Value} {fuel:Nat} {listed:Array Bool} {Sp:cv} (hi:ops[i]? =Y3 oi)
  (hs:Region.noSelect ops=Y8) (hf:Region.free .any ops listed i=Y8) (hr:(Region.ready .any ops listed).contains i=Y8) (hd:fK n oi.dst=Y8)
  (hp:∀c E F,¬Q (.panic c) E F) (hw:Region.wanted oi (yE ops E)=Y8) (hy:NB P (λ_=>True) E oi v) (hh:gi Sp F)
  (h:RG P n ops Q fuel (listed.setIfInBounds i Y8) Sp (cV E oi.dst v) F):RG P n ops Q (fuel+1) listed Sp E F:=
 C4 (S:=λ_=>True) hi hs hf hr hd hp hw hy (λ_ _ _=>trivial) hh λe a w ag st=>jB i _ _ _ _ _ (h e a w ag st)
theorem Kl {i:Nat} {oi:Oper} {fuel:Nat} {listed:Array Bool} {Sp:cv} (hi:ops[i]? =Y3 oi)
  (hs:Region.noSelect ops=Y8) (hf:Region.free .any ops listed i=Y8) (hr:(Region.ready .any ops listed).contains i=Y8) (hd:fK n oi.dst=Y8)
  (hp:∀c E F,¬Q (.panic c) E F) (hw:Region.wanted oi (yE ops E)=Y6) (hh:gi Sp F)
  (h:RG P n ops Q fuel (listed.setIfInBounds i Y8) Sp (cV E oi.dst undef) F):RG P n ops Q (fuel+1) listed Sp E F:=λe a w ag st=>
 mB (S:=λ_=>True) hi (Region.noSelect_spec hs) (λc a w ⟨E,F,_,_,q⟩=>(hp c E F q).elim) fuel listed Sp a w (Region.free_spec hi hf) (by simpa using hr)
  (.inr ⟨by rw [ag.wanted_eq];exact hw,rfl⟩) trivial (λr hr=>hh r hr e w st) (jB i _ _ _ _ _ (h e _ w (ag.put undef hd) st))
def Wy (P:Program) (n:Nat) (ops:Array Oper) (Q:Exit->En->PH->Prop) (fuel:Nat) (listed:Array Bool) (Sp:cv) (E:En) (F:PH) (i:Nat):Prop:=
 ∃o,ops[i]? =Y3 o/\fK n o.dst=Y8/\Region.wanted o (yE ops E)=Y8/\
  aF P (execOp (ev E) o) F (bL P (λE' F'=>gi (Sp.rest .any o) F'/\RG P n ops Q fuel (listed.setIfInBounds i Y8) (Sp.rest .any o) E' F') o E)
theorem O2 {fuel:Nat} {listed:Array Bool} {Sp:cv} {rs:List Nat} (hr:Region.ready .any ops listed=rs) (hne:rs.isEmpty=Y6)
  (h:∀i∈rs,Wy P n ops Q fuel listed Sp E F i):RG P n ops Q (fuel+1) listed Sp E F:=λe a w ag st=>by
 subst hr;refine ⟨λh0=>(by rw [h0] at hne;cases hne),λi hi o ho=> ?_⟩;obtain ⟨o',ho',hd,hw,hrun⟩:=h i hi;obtain rfl:o'=o:=by rw [ho] at ho';exact (Xy ho').symm
 unfold wpOp;simp only [ho];rw [ag.wanted_eq,Χ hw];exact .inl (Nz ag st hd (λa w E F ag st hk=>⟨λr hr=>hk.1 r hr e w st,hk.2 e a w ag st⟩) hrun)
end
def rdo {α:Type} (P:Program):Sem α->PH->α->Prop
 | .pure a,_,v=>a=v
 | .load _ a k,F,v=>∃x,F.cell a=Y3 x/\rdo P (k x) F v
 | .shape r k,F,v=>∃o,F r=Y3 o/\rdo P (k (jZ o)) F v
 | .frozen a k,F,v=>∃o,F a.block=Y3 o/\rdo P (k (uq o a.off)) F v
 | .getObj r k,F,v=>∃o,F r=Y3 o/\(∀c e fr,o≠Y4 c e fr)/\rdo P (k o) F v
 | .program k,F,v=>rdo P (k P) F v
 | .mark _ k,F,v=>rdo P k F v
 |_,_,_=>False
theorem qi {α:Type} {P:Program} {e:Ev} (s:Sem α):∀(F:PH) (w:World) (v:α),rdo P s F v->Sat e w F->s.run P w=.ok v w:=by
 induction s with
 |pure a=>intro F w v h _;exact congrArg (λx=>Result.ok x w) h
 |load m a k ih=>rintro F w v ⟨x,hc,h⟩ hs;simp only [Sem.run,hs.cell hc];exact ih x F w v h hs
 |shape r k ih=>
  rintro F w v ⟨o,hb,h⟩ hs;have hheap:=hs.heap _ _ hb;have:w.shape? r=jZ o:=by unfold World.shape?;rw [hheap];cases o<;>simp [jZ]
  simp only [Sem.run,this];exact ih _ F w v h hs
 |frozen a k ih=>
  rintro F w v ⟨o,hb,h⟩ hs;have hheap:=hs.heap _ _ hb;have:w.frozen? a=uq o a.off:=by unfold World.frozen?;rw [hheap];cases o<;>simp [uq,frz]
  simp only [Sem.run,this];exact ih _ F w v h hs
 |getObj r k ih=>
  rintro F w v ⟨o,hb,hn,h⟩ hs;have hheap:=hs.heap _ _ hb;have:(Sem.getObj r k).run P w=(k o).run P w:=by cases o<;>first|exact absurd rfl (hn _ _ _)|simp only [Sem.run,hheap]
  rw [this];exact ih _ F w v h hs
 |program k ih=>intro F w v h hs;exact ih _ F w v h hs
 |mark m k ih=>intro F w v h hs;exact ih F w v h hs
 |_=>intro F w v h;exact h.elim
theorem ij {α:Type} {P:Program} (s:Sem α):∀(F:PH) (v:α) (Q:α->PH->Prop),rdo P s F v->Q v F->aF P s F Q:=by
 induction s with
 |pure a=>intro F v Q h hq;cases h;exact hq
 |load m a k ih=>rintro F v Q ⟨x,hc,h⟩ hq;exact ⟨x,hc,ih x F v Q h hq⟩
 |shape r k ih=>rintro F v Q ⟨o,hb,h⟩ hq;exact ⟨o,hb,ih _ F v Q h hq⟩
 |frozen a k ih=>rintro F v Q ⟨o,hb,h⟩ hq;exact ⟨o,hb,ih _ F v Q h hq⟩
 |getObj r k ih=>rintro F v Q ⟨o,hb,hn,h⟩ hq;exact ⟨o,hb,hn,ih _ F v Q h hq⟩
 |program k ih=>intro F v Q h hq;exact ih _ F v Q h hq
 |mark m k ih=>intro F v Q h hq;exact ih F v Q h hq
 |_=>intro F v Q h;exact h.elim
theorem aj {α β:Type} {P:Program} (s:Sem α) (f:α->Sem β):∀(F:PH) (v:β),rdo P (s>>=f) F v↔∃a,rdo P s F a/\rdo P (f a) F v:=by
 show ∀(F:PH) (v:β),rdo P (s.bind f) F v↔_;induction s with
 |pure a=>intro F v;simp only [Sem.bind,rdo];exact ⟨λh=>⟨a,rfl,h⟩,by rintro ⟨_,rfl,h⟩;exact h⟩
 |load m a k ih=>intro F v;simp only [Sem.bind,rdo,ih];exact ⟨λ⟨x,hc,a,h1,h2⟩=>⟨a,⟨x,hc,h1⟩,h2⟩,λ⟨a,⟨x,hc,h1⟩,h2⟩=>⟨x,hc,a,h1,h2⟩⟩
 |shape r k ih=>intro F v;simp only [Sem.bind,rdo,ih];exact ⟨λ⟨x,hc,a,h1,h2⟩=>⟨a,⟨x,hc,h1⟩,h2⟩,λ⟨a,⟨x,hc,h1⟩,h2⟩=>⟨x,hc,a,h1,h2⟩⟩
 |frozen a k ih=>intro F v;simp only [Sem.bind,rdo,ih];exact ⟨λ⟨x,hc,a,h1,h2⟩=>⟨a,⟨x,hc,h1⟩,h2⟩,λ⟨a,⟨x,hc,h1⟩,h2⟩=>⟨x,hc,a,h1,h2⟩⟩
 |getObj r k ih=>intro F v;simp only [Sem.bind,rdo,ih];exact ⟨λ⟨x,hc,hn,a,h1,h2⟩=>⟨a,⟨x,hc,hn,h1⟩,h2⟩,λ⟨a,⟨x,hc,hn,h1⟩,h2⟩=>⟨x,hc,hn,a,h1,h2⟩⟩
 |program k ih=>intro F v;simp only [Sem.bind,rdo,ih]
 |mark m k ih=>intro F v;simp only [Sem.bind,rdo,ih]
 |_=>intro F v;simp [Sem.bind,rdo]
@[simp] theorem cK {α:Type} {P:Program} (a v:α) (F:PH):rdo P (pure a:Sem α) F v↔a=v:=Iff.rfl
@[simp] theorem aJ {α:Type} {P:Program} (a:α) (F:PH) (Q:α->PH->Prop):aF P (pure a:Sem α) F Q↔Q a F:=Iff.rfl
@[simp] theorem Km {α β:Type} {P:Program} (f:α->β) (s:Sem α) (F:PH) (v:β):rdo P (Functor.map f s) F v↔∃a,rdo P s F a/\f a=v:=aj s (λa=>pure (f a)) F v
@[simp] theorem T9 {α β:Type} {P:Program} (f:α->β) (s:Sem α) (F:PH) (Q:β->PH->Prop):aF P (Functor.map f s) F Q↔aF P s F (λa F'=>Q (f a) F'):=ur s (λa=>pure (f a)) F Q
def tsz (P:Program) (t:TypeId):Option (Nat×Nat):=(P.info? t).map λi=>(i.size,i.bytes)
def bO (P:Program) (t:TypeId):Option Value:=(P.info? t).bind (·.zero)
theorem so {P:Program} {t s b:Nat} (h:tsz P t=Y3 (s,b)):∃i,P.info? t=Y3 i/\i.size=s/\i.bytes=b:=by
 unfold tsz at h;cases hi:P.info? t with
 |none=>simp [hi] at h
 |some i=>simp [hi] at h;exact ⟨i,rfl,h.1,h.2⟩
theorem sq {P:Program} {t:Nat} {z:Value} (h:bO P t=Y3 z):∃i,P.info? t=Y3 i/\i.zero=Y3 z:=by
 unfold bO at h;cases hi:P.info? t with
 |none=>simp [hi] at h
 |some i=>simp [hi] at h;exact ⟨i,rfl,h⟩
section
variable {P:Program} {F:PH}
theorem bB {t s b:Nat} (h:tsz P t=Y3 (s,b)) (v:Nat):rdo P (sizeOf t) F v↔s=v:=by
 obtain ⟨i,h1,h2,h3⟩:=so h;unfold sizeOf typeInfo program;simp only [aj];constructor
 ·rintro ⟨i',⟨p,hp,h⟩,h'⟩;simp only [rdo] at hp;subst hp;rw [h1] at h;simp only [cK] at h h';subst h;rw [<- h2];exact h'
 ·rintro rfl;refine ⟨i,⟨P,rfl,?_⟩,?_⟩
  ·rw [h1];rfl
  ·rw [<- h2];rfl
theorem fw {t s b:Nat} (h:tsz P t=Y3 (s,b)) (Q:Nat->PH->Prop):aF P (sizeOf t) F Q↔Q s F:=by obtain ⟨i,h1,h2,h3⟩:=so h;unfold sizeOf typeInfo program;simp only [aB,aF,h1,aJ,h2]
theorem fL {t s b:Nat} (h:tsz P t=Y3 (s,b)):∃i:TypeInfo,i.bytes=b/\∀(F:PH) (Q:TypeInfo->PH->Prop),aF P (typeInfo t) F Q↔Q i F:=by obtain ⟨i,h1,h2,h3⟩:=so h;refine ⟨i,h3,λF Q=> ?_⟩;unfold typeInfo program;simp only [aB,aF,h1,aJ]
theorem av {t:Nat} {d:TypeDesc} (h:P.underlying t=Y3 d) (v:TypeDesc):rdo P (underlying t) F v↔d=v:=by
 unfold underlying program;simp only [aj];constructor
 ·rintro ⟨p,hp,h'⟩;simp only [rdo] at hp;subst hp;rw [h] at h';exact h'
 ·rintro rfl;exact ⟨P,rfl,by rw [h];rfl⟩
theorem bZ {t:Nat} {d:TypeDesc} (h:P.underlying t=Y3 d) (Q:TypeDesc->PH->Prop):aF P (underlying t) F Q↔Q d F:=by unfold underlying program;simp only [aB,aF,h,aJ]
theorem eP {t:Nat} {z:Value} (h:bO P t=Y3 z) (Q:Value->PH->Prop):aF P (zeroValue t) F Q↔Q z F:=by obtain ⟨i,h1,h2⟩:=sq h;unfold zeroValue typeInfo program;simp only [aB,aF,h1,aJ,h2]
theorem gN {t:Nat} {z:Value} (h:bO P t=Y3 z) (v:Value):rdo P (zeroValue t) F v↔z=v:=by
 obtain ⟨i,h1,h2⟩:=sq h;unfold zeroValue typeInfo program;simp only [aj];constructor
 ·rintro ⟨i',⟨p,hp,h⟩,h'⟩;simp only [rdo] at hp;subst hp;rw [h1] at h;simp only [cK] at h;subst h;rw [h2] at h';exact h'
 ·rintro rfl;exact ⟨i,⟨P,rfl,by rw [h1];rfl⟩,by rw [h2];rfl⟩
def RD (P:Program) (E:En) (F:PH) (o:Oper) (v:Value):Prop:=rdo P (execOp (ev E) o) F (.value v)
variable {n:Nat} {Q:Exit->En->PH->Prop} {E:En} {ops:Array Oper} {o:Oper} {l:List Oper}
theorem Ua {v:Value} (h:RD P E F o v) (K:HL P n ops Q l (cV E o.dst v) F) (hw:Region.wanted o (yE ops E)=Y8:=by rfl) (hd:fK n o.dst=Y8:=by rfl):
  HL P n ops Q (o::l) E F:=NA hw hd (ij _ _ _ _ h K)
theorem Ub {i:Nat} {oi:Oper} {v:Value} {fuel:Nat} {listed:Array Bool} {Sp:cv} (hi:ops[i]? =Y3 oi)
  (hs:Region.noSelect ops=Y8) (hf:Region.free .any ops listed i=Y8) (hr:(Region.ready .any ops listed).contains i=Y8) (hd:fK n oi.dst=Y8)
  (hp:∀c E F,¬Q (.panic c) E F) (hw:Region.wanted oi (yE ops E)=Y8) (hy:RD P E F oi v) (hh:gi Sp F)
  (h:RG P n ops Q fuel (listed.setIfInBounds i Y8) ((i,λw=>∃e F,Sat e w F/\RD P E F oi v)::Sp) (cV E oi.dst v) F):RG P n ops Q (fuel+1) listed Sp E F:=
 C4 hi hs hf hr hd hp hw (λw ⟨e,_,st,h⟩=>qi _ _ _ _ h st) (λe w st=>⟨e,F,st,hy⟩) hh h
theorem Uc {i:Nat} {oi:Oper} {v:Value} {fuel:Nat} {listed:Array Bool} {Sp:cv} (hi:ops[i]? =Y3 oi)
  (hs:Region.noSelect ops=Y8) (hf:Region.free .any ops listed i=Y8) (hr:(Region.ready .any ops listed).contains i=Y8) (hd:fK n oi.dst=Y8)
  (hp:∀c E F,¬Q (.panic c) E F) (hw:Region.wanted oi (yE ops E)=Y8) (hy:∀F,RD P E F oi v) (hh:gi Sp F)
  (h:RG P n ops Q fuel (listed.setIfInBounds i Y8) Sp (cV E oi.dst v) F):RG P n ops Q (fuel+1) listed Sp E F:=
 Kk hi hs hf hr hd hp hw (λw _=>by
  have st:Sat ⟨w.os,w.tape,w.output,λ_=>Y5⟩ w (λ_=>Y5):=⟨rfl,rfl,rfl,λb o h=>(by cases h),λb o h=>(by cases h)⟩
  exact qi _ _ _ _ (hy _) st) hh h
theorem C5 {v:Value} (h:RD P E F o v):Ay F (λw=>∃e F,Sat e w F/\RD P E F o v):=λe _ st=>⟨e,F,st,h⟩
end
structure Sl where
 YZ:Option Addr
 len:Nat
 cap:Nat
def Sl.v (s:Sl):Value:=.slice s.YZ s.len s.cap
def Sl.nil:Sl:=⟨Y5,0,0⟩
theorem aP {x:Int} (h1: -9223372036854775808<=x) (h2:x<=9223372036854775807:=by omega):IntKind.i64.wrap x=x:=by
 have e:IntKind.i64.wrap x=if x % 18446744073709551616≥9223372036854775808 then x % 18446744073709551616 - 18446744073709551616 else x % 18446744073709551616:=by unfold IntKind.wrap;simp [IntKind.bits,IntKind.signed]
 rw [e];split<;>omega
section
variable {P:Program} {F:PH} {E:En} {o:Oper}
theorem O3 {x:Operand} {v:Value} (ho:o.op=.move x) (hx:ev E x=v):RD P E F o v:=by simp only [RD,execOp,ho,cK,hx]
theorem Hq {x:Operand} {v:Value} (ho:o.op=.assign x) (hx:ev E x=v):RD P E F o v:=by simp only [RD,execOp,ho,cK,hx]
theorem wG {c a b:Operand} {t:Bool} {v:Value} (ho:o.op=.pick c a b) (hc:ev E c=.bool t) (h1:t=Y8->ev E a=v) (h2:t=Y6->ev E b=v):RD P E F o v:=by
 cases t
 ·simp [RD,execOp,ho,hc,asBool,h2]
 ·simp [RD,execOp,ho,hc,asBool,h1]
abbrev VP:=Value->PH->Prop
abbrev nx1 {α:Type} (I:Nat->α->PH->Prop) (m:Nat):α->PH->Prop:=λa F=>∃m',m'<m/\I m' a F
abbrev nx2 {α β:Type} (I:Nat->α->β->PH->Prop) (m:Nat):α->β->PH->Prop:=λa b F=>∃m',m'<m/\I m' a b F
abbrev nx3 {α β γ:Type} (I:Nat->α->β->γ->PH->Prop) (m:Nat):α->β->γ->PH->Prop:=λa b c F=>∃m',m'<m/\I m' a b c F
theorem W3 {c a b:Operand} {v:Value} (ho:o.op=.pick c a b) (hc:ev E c=.bool Y6) (h2:ev E b=v:=by rfl):RD P E F o v:=wG ho hc (λh=>by cases h) (λ_=>h2)
theorem W4 {c a b:Operand} {v:Value} (ho:o.op=.pick c a b) (hc:ev E c=.bool Y8) (h2:ev E a=v:=by rfl):RD P E F o v:=wG ho hc (λ_=>h2) (λh=>by cases h)
theorem Az {x:Operand} {a:Addr} (ho:o.op=.nilCheck x) (hx:ev E x=.pointer (Y3 a)):RD P E F o (.pointer (Y3 a)):=by simp [RD,execOp,ho,hx]
theorem yi {x:Operand} {f:FuncId} {a b:Array Value} (ho:o.op=.nilCheck x) (hx:ev E x=.func (.func f) a b):RD P E F o (.func (.func f) a b):=by simp [RD,execOp,ho,hx]
theorem ut {x:Operand} {vs:Array Value} {i:Nat} {v:Value} (ho:o.op=.extract x i) (hx:ev E x=.tuple vs) (hi:vs[i]? =Y3 v):RD P E F o v:=by simp [RD,execOp,ho,hx,Instr.extract,hi]
theorem AA {fn:Fn} {first captured:Array Operand} {a b:Array Value} (ho:o.op=.makeFunc fn first captured) (h1:first.map (ev E)=a) (h2:captured.map (ev E)=b):
  RD P E F o (.func fn a b):=by
 simp [RD,execOp,ho,h1,h2,Instr.makeFunc]
section
variable {x y:Operand} {t t':TypeId} {k:IntKind} {a b:Int}
theorem Ud (ho:o.op=.binOp .add t x y t') (hx:ev E x=.int k a) (hy:ev E y=.int k b):RD P E F o (.int k (k.wrap (a+b))):=by simp [RD,execOp,ho,hx,hy,binOp,eqGuard,Op.intArith]
theorem Ue (ho:o.op=.binOp .sub t x y t') (hx:ev E x=.int k a) (hy:ev E y=.int k b):RD P E F o (.int k (k.wrap (a - b))):=by simp [RD,execOp,ho,hx,hy,binOp,eqGuard,Op.intArith]
theorem Uf (ho:o.op=.binOp .mul t x y t') (hx:ev E x=.int k a) (hy:ev E y=.int k b):RD P E F o (.int k (k.wrap (a*b))):=by simp [RD,execOp,ho,hx,hy,binOp,eqGuard,Op.intArith]
theorem NC (ho:o.op=.binOp .quo t x y t') (hx:ev E x=.int k a) (hy:ev E y=.int k b) (hb:b≠0):RD P E F o (.int k (k.wrap (a.tdiv b))):=by simp [RD,execOp,ho,hx,hy,binOp,eqGuard,Op.intDiv,hb]
theorem ND (ho:o.op=.binOp .rem t x y t') (hx:ev E x=.int k a) (hy:ev E y=.int k b) (hb:b≠0):RD P E F o (.int k (a.tmod b)):=by simp [RD,execOp,ho,hx,hy,binOp,eqGuard,Op.intDiv,hb]
theorem Ug (ho:o.op=.binOp .and t x y t') (hx:ev E x=.int k a) (hy:ev E y=.int k b):RD P E F o (.int k (k.wrap ((BitVec.ofInt k.bits a &&& BitVec.ofInt k.bits b).toNat))):=by simp [RD,execOp,ho,hx,hy,binOp,eqGuard,Op.intBits]
theorem Wz (ho:o.op=.binOp .or t x y t') (hx:ev E x=.int k a) (hy:ev E y=.int k b):RD P E F o (.int k (k.wrap ((BitVec.ofInt k.bits a ||| BitVec.ofInt k.bits b).toNat))):=by simp [RD,execOp,ho,hx,hy,binOp,eqGuard,Op.intBits]
theorem Uh (ho:o.op=.binOp .xor t x y t') (hx:ev E x=.int k a) (hy:ev E y=.int k b):RD P E F o (.int k (k.wrap ((BitVec.ofInt k.bits a ^^^ BitVec.ofInt k.bits b).toNat))):=by simp [RD,execOp,ho,hx,hy,binOp,eqGuard,Op.intBits]
theorem Hr (ho:o.op=.binOp .andNot t x y t') (hx:ev E x=.int k a) (hy:ev E y=.int k b):RD P E F o (.int k (k.wrap ((BitVec.ofInt k.bits a &&& ~~~ BitVec.ofInt k.bits b).toNat))):=by simp [RD,execOp,ho,hx,hy,binOp,eqGuard,Op.intBits]
theorem Ui (ho:o.op=.binOp .lss t x y t') (hx:ev E x=.int k a) (hy:ev E y=.int k b):RD P E F o (.bool (decide (a<b))):=by simp [RD,execOp,ho,hx,hy,binOp,eqGuard,Op.intCmp]
theorem Uj (ho:o.op=.binOp .leq t x y t') (hx:ev E x=.int k a) (hy:ev E y=.int k b):RD P E F o (.bool (decide (a<=b))):=by simp [RD,execOp,ho,hx,hy,binOp,eqGuard,Op.intCmp]
theorem Uk (ho:o.op=.binOp .gtr t x y t') (hx:ev E x=.int k a) (hy:ev E y=.int k b):RD P E F o (.bool (decide (b<a))):=by simp [RD,execOp,ho,hx,hy,binOp,eqGuard,Op.intCmp]
theorem Ul (ho:o.op=.binOp .geq t x y t') (hx:ev E x=.int k a) (hy:ev E y=.int k b):RD P E F o (.bool (decide (b<=a))):=by simp [RD,execOp,ho,hx,hy,binOp,eqGuard,Op.intCmp]
theorem Um (ho:o.op=.binOp .eql t x y t') (hx:ev E x=.int k a) (hy:ev E y=.int k b):RD P E F o (.bool (a==b)):=by simp [RD,execOp,ho,hx,hy,binOp,eqGuard,Op.intCmp]
theorem Un (ho:o.op=.binOp .neq t x y t') (hx:ev E x=.int k a) (hy:ev E y=.int k b):RD P E F o (.bool (a !=b)):=by simp [RD,execOp,ho,hx,hy,binOp,eqGuard,Op.intCmp]
theorem NE {k':IntKind} (ho:o.op=.binOp .shl t x y t') (hx:ev E x=.int k a) (hy:ev E y=.int k' b) (hb:0<=b):RD P E F o (.int k (k.wrap (a*2 ^ (min b.toNat k.bits)))):=by simp [RD,execOp,ho,hx,hy,binOp,eqGuard,Op.shift,Int.not_lt.2 hb]
theorem NF {k':IntKind} (ho:o.op=.binOp .shr t x y t') (hx:ev E x=.int k a) (hy:ev E y=.int k' b) (hb:0<=b):RD P E F o (.int k (a.fdiv (2 ^ (min b.toNat k.bits)))):=by simp [RD,execOp,ho,hx,hy,binOp,eqGuard,Op.shift,Int.not_lt.2 hb]
theorem Uo (ho:o.op=.unOp .neg t x) (hx:ev E x=.int k a):RD P E F o (.int k (k.wrap (0 - a))):=by simp [RD,execOp,ho,hx,Op.unary,Op.intArith]
theorem Ht {c:Bool} (ho:o.op=.unOp .not t x) (hx:ev E x=.bool c):RD P E F o (.bool !c):=by simp [RD,execOp,ho,hx,Op.unary]
theorem Eg {k':IntKind} {d:TypeDesc} (ho:o.op=.convert t t' x) (hx:ev E x=.int k a) (h1:P.underlying t=Y3 d) (h2:P.underlying t'=Y3 (.int k')):RD P E F o (.int k' (k'.wrap a)):=by simp [RD,execOp,ho,hx,convert,aj,av h1,av h2,Conv.intToInt]
theorem uu {m:Nat} {c d:Bool} (h1:P.underlying t=Y3 .bool):rdo P (Op.equalIn (m+1) t (.bool c) (.bool d)) F (c==d):=by simp only [Op.equalIn,aj];exact ⟨_,(av h1 _).2 rfl,rfl⟩
theorem uv {m:Nat} {p:Option Addr} {e':TypeId} (h1:P.underlying t=Y3 (.pointer e')):rdo P (Op.equalIn (m+1) t (.pointer p) (.pointer Y5)) F p.isNone:=by simp only [Op.equalIn,aj];refine ⟨_,(av h1 _).2 rfl,?_⟩;cases p<;>rfl
theorem cn {op:BinOp} {v u:Value} (h:(match v,u with| .nilIface,.nilIface=>Y6| .agg _,.agg _=>Y6|_,_=>Y8)=Y8):rdo P (eqGuard op t x y v u) F ():=by unfold eqGuard;cases op<;>simp<;>(split<;>first|(simp at h;done)|rfl)
theorem qj {v u:Value} {r:Bool} (ho:o.op=.binOp .eql t x y t') (hx:ev E x=v) (hy:ev E y=u) (hg:rdo P (eqGuard .eql t x y v u) F ()) (he:rdo P (Op.equal t v u) F r)
  (hb:binOp .eql t v u=(do pure (.bool (<- Op.equal t v u)))):RD P E F o (.bool r):=by
 simp only [RD,execOp,ho,hx,hy,aj];refine ⟨.bool r,⟨(),hg,?_⟩,rfl⟩;rw [hb,aj];exact ⟨r,he,rfl⟩
theorem ql {v u:Value} {r:Bool} (ho:o.op=.binOp .neq t x y t') (hx:ev E x=v) (hy:ev E y=u) (hg:rdo P (eqGuard .neq t x y v u) F ()) (he:rdo P (Op.equal t v u) F r)
  (hb:binOp .neq t v u=(do pure (.bool (!(<- Op.equal t v u))))):RD P E F o (.bool (!r)):=by
 simp only [RD,execOp,ho,hx,hy,aj];refine ⟨.bool (!r),⟨(),hg,?_⟩,rfl⟩;rw [hb,aj];exact ⟨r,he,rfl⟩
theorem O4 {c d:Bool} (ho:o.op=.binOp .eql t x y t') (hx:ev E x=.bool c) (hy:ev E y=.bool d) (h1:P.underlying t=Y3 .bool):RD P E F o (.bool (c==d)):=
 qj ho hx hy (cn rfl) (uu h1) rfl
theorem O5 {c d:Bool} (ho:o.op=.binOp .neq t x y t') (hx:ev E x=.bool c) (hy:ev E y=.bool d) (h1:P.underlying t=Y3 .bool):RD P E F o (.bool (!(c==d))):=
 ql ho hx hy (cn rfl) (uu h1) rfl
theorem yj {p:Option Addr} {e':TypeId} (ho:o.op=.binOp .eql t x y t') (hx:ev E x=.pointer p) (hy:ev E y=.pointer Y5) (h1:P.underlying t=Y3 (.pointer e')):RD P E F o (.bool p.isNone):=
 qj ho hx hy (cn rfl) (uv h1) rfl
theorem yk {p:Option Addr} {e':TypeId} (ho:o.op=.binOp .neq t x y t') (hx:ev E x=.pointer p) (hy:ev E y=.pointer Y5) (h1:P.underlying t=Y3 (.pointer e')):RD P E F o (.bool (!p.isNone)):=
 ql ho hx hy (cn rfl) (uv h1) rfl
theorem ss {m:Nat} {s:Sl} {e':TypeId} (h1:P.underlying t=Y3 (.slice e')):rdo P (Op.equalIn (m+1) t s.v (.slice Y5 0 0)) F s.YZ.isNone:=by simp only [Op.equalIn,aj];refine ⟨_,(av h1 _).2 rfl,?_⟩;obtain ⟨b,l,c⟩:=s;cases b<;>rfl
theorem AB {s:Sl} {e':TypeId} (ho:o.op=.binOp .eql t x y t') (hx:ev E x=s.v) (hy:ev E y=.slice Y5 0 0) (h1:P.underlying t=Y3 (.slice e')):RD P E F o (.bool s.YZ.isNone):=
 qj ho hx hy (cn rfl) (ss h1) rfl
theorem AC {s:Sl} {e':TypeId} (ho:o.op=.binOp .neq t x y t') (hx:ev E x=s.v) (hy:ev E y=.slice Y5 0 0) (h1:P.underlying t=Y3 (.slice e')):RD P E F o (.bool (!s.YZ.isNone)):=
 ql ho hx hy (cn rfl) (ss h1) rfl
theorem O6 {c d:ByteArray} (ho:o.op=.binOp .eql t x y t') (hx:ev E x=.string c) (hy:ev E y=.string d):RD P E F o (.bool (c.toList==d.toList)):=by simp [RD,execOp,ho,hx,hy,binOp,eqGuard,Op.stringOp]
theorem O7 {c d:ByteArray} (ho:o.op=.binOp .neq t x y t') (hx:ev E x=.string c) (hy:ev E y=.string d):RD P E F o (.bool (!(c.toList==d.toList))):=by simp [RD,execOp,ho,hx,hy,binOp,eqGuard,Op.stringOp]
end
section
variable {x y:Operand} {t t':TypeId} {k:IntKind} {a b:Int}
theorem Kn {s:Sl} {e':TypeId} (ho:o.op=.call {callee:=.builtin .len,args:= #[x],argTypes:= #[t]}) (hx:ev E x=s.v) (h1:P.underlying t=Y3 (.slice e')):RD P E F o (.int .i64 s.len):=by simp [RD,execOp,ho,resolve,invoke,builtin,hx,Sl.v,Builtin.len_,aj,av h1,goInt]
theorem Ko {s:Sl} {e':TypeId} (ho:o.op=.call {callee:=.builtin .cap,args:= #[x],argTypes:= #[t]}) (hx:ev E x=s.v) (h1:P.underlying t=Y3 (.slice e')):RD P E F o (.int .i64 s.cap):=by simp [RD,execOp,ho,resolve,invoke,builtin,hx,Sl.v,Builtin.cap_,aj,av h1,goInt]
theorem Hu {s:ByteArray} (ho:o.op=.call {callee:=.builtin .len,args:= #[x],argTypes:= #[t]}) (hx:ev E x=.string s) (h1:P.underlying t=Y3 .string):RD P E F o (.int .i64 s.size):=by simp [RD,execOp,ho,resolve,invoke,builtin,hx,Builtin.len_,aj,av h1,goInt]
theorem O8 {ts:Array TypeId} (ho:o.op=.call {callee:=.builtin .max,args:= #[x,y],argTypes:=ts}) (hx:ev E x=.int k a) (hy:ev E y=.int k b):RD P E F o (.int k (max a b)):=by
 have:(if b>a then b else a)=max a b:=by omega
 simp [RD,execOp,ho,resolve,invoke,builtin,hx,hy,Builtin.max_,Builtin.max2];omega
theorem O9 {ts:Array TypeId} (ho:o.op=.call {callee:=.builtin .min,args:= #[x,y],argTypes:=ts}) (hx:ev E x=.int k a) (hy:ev E y=.int k b):RD P E F o (.int k (min a b)):=by simp [RD,execOp,ho,resolve,invoke,builtin,hx,hy,Builtin.min_,Builtin.min2];omega
theorem Pa {ts:Array TypeId} {z:Operand} {c:Int} (ho:o.op=.call {callee:=.builtin .max,args:= #[x,y,z],argTypes:=ts}) (hx:ev E x=.int k a) (hy:ev E y=.int k b) (hz:ev E z=.int k c):RD P E F o (.int k (max (max a b) c)):=by simp [RD,execOp,ho,resolve,invoke,builtin,hx,hy,hz,Builtin.max_,Builtin.max2];omega
theorem Pb {ts:Array TypeId} {z:Operand} {c:Int} (ho:o.op=.call {callee:=.builtin .min,args:= #[x,y,z],argTypes:=ts}) (hx:ev E x=.int k a) (hy:ev E y=.int k b) (hz:ev E z=.int k c):RD P E F o (.int k (min (min a b) c)):=by simp [RD,execOp,ho,resolve,invoke,builtin,hx,hy,hz,Builtin.min_,Builtin.min2];omega
end
def kS (d:TypeDesc):Bool:=match d with| .struct _| .array _ _=>Y8|_=>Y6
theorem dK {t:Nat} {d:TypeDesc} (h:P.underlying t=Y3 d) (v:Bool):rdo P (isAgg t) F v↔kS d=v:=by unfold isAgg;simp only [aj,av h,exists_eq_left'];cases d<;>simp [kS]
def PH.row (F:PH) (a:Addr) (cs:Array Value):Prop:=∀i,(h:i<cs.size)->F.cell (a.add i)=Y3 cs[i]
theorem mC {a:Addr}:∀(n i:Nat) (acc cs:Array Value),cs.size=i+n->acc.toList=cs.toList.take i->F.row a cs->rdo P (loadCellsFrom a i n acc) F cs:=by
 intro n;induction n with
 |zero=>intro i acc cs hs ha _;show acc=cs;apply Array.ext';rw [ha,Xf];simp only [Xb];omega
 |succ n ih=>
  intro i acc cs hs ha hr;have hi:i<cs.size:=by omega
  simp only [loadCellsFrom,aj];refine ⟨cs[i],⟨_,hr i hi,rfl⟩,?_⟩;refine ih (i+1) _ cs (by omega) ?_ hr;rw [Array.toList_push,ha,Xr (by simpa using hi)];simp
theorem fm {a:Addr} {cs:Array Value} (hr:F.row a cs):rdo P (loadCells a cs.size) F cs:=
 mC cs.size 0 #[] cs (by omega) (by simp) hr
theorem Kp {x:Operand} {t:TypeId} {d:TypeDesc} {a:Addr} {v:Value} (ho:o.op=.load t x) (hx:ev E x=.pointer (Y3 a)) (h1:P.underlying t=Y3 d) (h2:kS d=Y6) (hc:F.cell a=Y3 v):
  RD P E F o v:=by
 simp [RD,execOp,ho,hx,Instr.loadAt,Instr.sureAddr,loadVar,aj,dK h1,h2,load,rdo,hc]
theorem Kq {x:Operand} {t:TypeId} {d:TypeDesc} {a:Addr} {cs:Array Value} {b:Nat} (ho:o.op=.load t x) (hx:ev E x=.pointer (Y3 a)) (h1:P.underlying t=Y3 d) (h2:kS d=Y8)
  (h3:tsz P t=Y3 (cs.size,b)) (hr:F.row a cs):RD P E F o (.agg cs):=by
 have:=fm (P:=P) hr;simp [RD,execOp,ho,hx,Instr.loadAt,Instr.sureAddr,loadVar,aj,dK h1,h2,bB h3,this]
theorem sA {a:Addr} {f:Field} {s b:Nat} (h:tsz P f.type=Y3 (s,b)) (hs:s≠0) (v:Addr):rdo P (fieldPlace a f) F v↔a.add f.offset=v:=by simp [fieldPlace,aj,bB h,hs]
theorem yl {x:Operand} {t i:Nat} {a:Addr} {fs:Array Field} {f:Field} {s b:Nat} (ho:o.op=.fieldAddr t x i) (hx:ev E x=.pointer (Y3 a)) (h1:P.underlying t=Y3 (.struct fs))
  (h2:fs[i]? =Y3 f) (h3:tsz P f.type=Y3 (s,b)) (hs:s≠0):RD P E F o (.pointer (Y3 (a.add f.offset))):=by
 simp [RD,execOp,ho,hx,Instr.fieldAt,Instr.sureAddr,aj,av h1,h2,sA h3 hs]
theorem uw {t off:Nat} {d:TypeDesc} {cs:Array Value} {v:Value} (h1:P.underlying t=Y3 d) (h2:kS d=Y6) (hc:cs[off]? =Y3 v):rdo P (part t cs off) F v:=by simp [part,aj,dK h1,h2,hc]
theorem Eh {t off s b:Nat} {d:TypeDesc} {cs:Array Value} (h1:P.underlying t=Y3 d) (h2:kS d=Y8) (h3:tsz P t=Y3 (s,b)):rdo P (part t cs off) F (.agg (cs.extract off (off+s))):=by simp [part,aj,dK h1,h2,bB h3]
theorem Hv {x:Operand} {t i:Nat} {cs:Array Value} {fs:Array Field} {f:Field} {d:TypeDesc} {v:Value} (ho:o.op=.field t x i) (hx:ev E x=.agg cs) (h1:P.underlying t=Y3 (.struct fs))
  (h2:fs[i]? =Y3 f) (h3:P.underlying f.type=Y3 d) (h4:kS d=Y6) (hc:cs[f.offset]? =Y3 v):RD P E F o v:=by
 simp only [RD,execOp,ho,hx,Instr.field,aj,av h1,asAgg,cK];exact ⟨v,⟨_,rfl,by simp only [h2,aj,cK,exists_eq_left'];exact uw h3 h4 hc⟩,rfl⟩
theorem Hw {x:Operand} {t i s b:Nat} {cs:Array Value} {fs:Array Field} {f:Field} {d:TypeDesc} (ho:o.op=.field t x i) (hx:ev E x=.agg cs) (h1:P.underlying t=Y3 (.struct fs))
  (h2:fs[i]? =Y3 f) (h3:P.underlying f.type=Y3 d) (h4:kS d=Y8) (h5:tsz P f.type=Y3 (s,b)):RD P E F o (.agg (cs.extract f.offset (f.offset+s))):=by
 simp only [RD,execOp,ho,hx,Instr.field,aj,av h1,asAgg,cK];exact ⟨_,⟨_,rfl,by simp only [h2,aj,cK,exists_eq_left'];exact Eh h3 h4 h5⟩,rfl⟩
theorem tA {x y:Operand} {t e' s b:Nat} {YZ:Addr} {len cap:Nat} {k:IntKind} {i:Int} (ho:o.op=.indexAddr t x y) (hx:ev E x=.slice (Y3 YZ) len cap) (hy:ev E y=.int k i)
  (h1:P.underlying t=Y3 (.slice e')) (h2:tsz P e'=Y3 (s,b)) (h3:0<=i) (h4:i<len):RD P E F o (.pointer (Y3 (YZ.add (i.toNat*s)))):=by
 simp [RD,execOp,ho,hx,hy,Instr.indexAt,asIntOf,aj,av h1,h3,h4,bB h2]
theorem tB {x y:Operand} {t e' s b n:Nat} {YZ:Addr} {k:IntKind} {i:Int} (ho:o.op=.indexAddr t x y) (hx:ev E x=.pointer (Y3 YZ)) (hy:ev E y=.int k i)
  (h1:P.underlying t=Y3 (.array n e')) (h2:tsz P e'=Y3 (s,b)) (h3:0<=i) (h4:i<n):RD P E F o (.pointer (Y3 (YZ.add (i.toNat*s)))):=by
 simp [RD,execOp,ho,hx,hy,Instr.indexAt,asIntOf,aj,av h1,h3,h4,bB h2,Instr.sureAddr]
theorem AD {x y:Operand} {t:Nat} {st:ByteArray} {k:IntKind} {i:Int} (ho:o.op=.index t x y) (hx:ev E x=.string st) (hy:ev E y=.int k i)
  (h1:P.underlying t=Y3 .string) (h3:0<=i) (h4:i<st.size):RD P E F o (.int .u8 (st[i.toNat]'(by omega)).toNat):=by
 have h5:i.toNat<st.size:=by omega
 have:st[i.toNat]? =Y3 (st[i.toNat]'h5):=getElem?_pos st i.toNat h5;simp [RD,execOp,ho,hx,hy,Instr.index,asIntOf,aj,av h1,h3,this]
theorem ym {x y:Operand} {t e' n s b:Nat} {cs:Array Value} {k:IntKind} {i:Int} {d:TypeDesc} {v:Value} (ho:o.op=.index t x y) (hx:ev E x=.agg cs) (hy:ev E y=.int k i)
  (h1:P.underlying t=Y3 (.array n e')) (h2:tsz P e'=Y3 (s,b)) (hd:P.underlying e'=Y3 d) (hag:kS d=Y6) (h3:0<=i) (h4:i<n) (hc:cs[i.toNat*s]? =Y3 v):RD P E F o v:=by
 simp only [RD,execOp,ho,hx,hy,Instr.index,asIntOf,aj,av h1,cK];refine ⟨v,⟨(k,i),rfl,.array n e',rfl,?_⟩,rfl⟩;simp only [h3,h4,and_self,if_true,aj,bB h2];exact ⟨_,rfl,uw hd hag hc⟩
theorem cw {k:IntKind} {i:Int} {y:Nat} {c:BoundsCode} (h1:0<=i) (h2:i<=y) (v:Nat):rdo P (Instr.sliceBound (.int k i) y c) F v↔i.toNat=v:=by simp [Instr.sliceBound,asIntOf,h1,h2]
def dL (v:Option Value) (dflt:Nat) (r:Nat):Prop:=(v=Y5/\r=dflt)\/∃k i,v=Y3 (.int k i)/\0<=i/\i.toNat=r
theorem fa {sl:Bool} {len cap:Nat} {lo hi:Option Value} {l h:Nat} (hh:dL hi len h) (hl:dL lo 0 l) (h1:l<=h) (h2:h<=cap) (v:Nat×Nat×Nat):
  rdo P (Instr.sliceBounds sl len cap lo hi Y5) F v↔(l,h,cap)=v:=by
 rcases hh with ⟨rfl,rfl⟩|⟨k,i,rfl,hi0,rfl⟩<;>rcases hl with ⟨rfl,rfl⟩|⟨k',j,rfl,hj0,rfl⟩
 ·simp [Instr.sliceBounds]
 ·have e2:∀c x,rdo P (Instr.sliceBound (.int k' j) h c) F x↔j.toNat=x:=λc x=>cw hj0 (by omega) x;cases sl<;>simp [Instr.sliceBounds,e2]
 ·have e1:∀c x,rdo P (Instr.sliceBound (.int k i) cap c) F x↔i.toNat=x:=λc x=>cw hi0 (by omega) x;cases sl<;>simp [Instr.sliceBounds,e1]
 ·have e1:∀c x,rdo P (Instr.sliceBound (.int k i) cap c) F x↔i.toNat=x:=λc x=>cw hi0 (by omega) x;have e2:∀c x,rdo P (Instr.sliceBound (.int k' j) i.toNat c) F x↔j.toNat=x:=λc x=>cw hj0 (by omega) x;cases sl<;>simp [Instr.sliceBounds,aj,e1,e2]
theorem nI {sl:Bool} {len cap:Nat} {lo:Option Value} {k k':IntKind} {i m:Int} {l:Nat} (hl:dL lo 0 l) (h0:0<=i) (hm0:0<=m) (h1:l<=i.toNat) (h2:i<=m) (h3:m<=cap) (v:Nat×Nat×Nat):
  rdo P (Instr.sliceBounds sl len cap lo (Y3 (.int k i)) (Y3 (.int k' m))) F v↔(l,i.toNat,m.toNat)=v:=by
 have e1:∀c x,rdo P (Instr.sliceBound (.int k' m) cap c) F x↔m.toNat=x:=λc x=>cw hm0 h3 x;have e2:∀c x,rdo P (Instr.sliceBound (.int k i) m.toNat c) F x↔i.toNat=x:=λc x=>cw h0 (by omega) x;rcases hl with ⟨rfl,rfl⟩|⟨k'',j,rfl,hj0,rfl⟩
 ·cases sl<;>simp [Instr.sliceBounds,aj,e1,e2]
 ·have e3:∀c x,rdo P (Instr.sliceBound (.int k'' j) i.toNat c) F x↔j.toNat=x:=λc x=>cw hj0 (by omega) x;cases sl<;>simp [Instr.sliceBounds,aj,e1,e2,e3]
def Sl.cut (s:Sl) (size l h m:Nat):Sl:=⟨if m=l then s.YZ else s.YZ.map (·.add (l*size)),h - l,m - l⟩
theorem Ei {x:Operand} {lo hi:Option Operand} {t e' size b:Nat} {s:Sl} {l h:Nat} (ho:o.op=.slice t x lo hi Y5) (hx:ev E x=s.v) (h1:P.underlying t=Y3 (.slice e')) (h2:tsz P e'=Y3 (size,b))
  (hl:dL (lo.map (ev E)) 0 l) (hh:dL (hi.map (ev E)) s.len h) (h3:l<=h) (h4:h<=s.cap):RD P E F o (s.cut size l h s.cap).v:=by
 have:=fa (P:=P) (F:=F) (sl:=Y8) hh hl h3 h4;simp [RD,execOp,ho,hx,Instr.sliceAt,Instr.slice,Sl.v,Sl.cut,aj,av h1,bB h2,this]
theorem AG {x hi mx:Operand} {lo:Option Operand} {t e' size b:Nat} {s:Sl} {l:Nat} {k k':IntKind} {i m:Int} (ho:o.op=.slice t x lo (Y3 hi) (Y3 mx)) (hx:ev E x=s.v) (h1:P.underlying t=Y3 (.slice e')) (h2:tsz P e'=Y3 (size,b))
  (hl:dL (lo.map (ev E)) 0 l) (hi':ev E hi=.int k i) (hm:ev E mx=.int k' m) (h0:0<=i) (hm0:0<=m) (h3:l<=i.toNat) (h4:i<=m) (h5:m<=s.cap):RD P E F o (s.cut size l i.toNat m.toNat).v:=by
 have:=nI (P:=P) (F:=F) (sl:=Y8) (len:=s.len) (k:=k) (k':=k') hl h0 hm0 h3 h4 h5;simp [RD,execOp,ho,hx,Instr.sliceAt,Instr.slice,Sl.v,Sl.cut,aj,av h1,bB h2,hi',hm,this]
theorem ux {x:Operand} {lo hi:Option Operand} {t e' size b n:Nat} {a:Addr} {l h:Nat} (ho:o.op=.slice t x lo hi Y5) (hx:ev E x=.pointer (Y3 a)) (h1:P.underlying t=Y3 (.array n e')) (h2:tsz P e'=Y3 (size,b))
  (hl:dL (lo.map (ev E)) 0 l) (hh:dL (hi.map (ev E)) n h) (h3:l<=h) (h4:h<=n):RD P E F o (Sl.cut ⟨Y3 a,n,n⟩ size l h n).v:=by
 have:=fa (P:=P) (F:=F) (sl:=Y6) hh hl h3 h4;simp [RD,execOp,ho,hx,Instr.sliceAt,Instr.sureAddr,Sl.v,Sl.cut,aj,av h1,bB h2,this];split<;>rfl
theorem AH {x:Operand} {lo hi:Option Operand} {t:Nat} {s:ByteArray} {l h:Nat} (ho:o.op=.slice t x lo hi Y5) (hx:ev E x=.string s) (h1:P.underlying t=Y3 .string)
  (hl:dL (lo.map (ev E)) 0 l) (hh:dL (hi.map (ev E)) s.size h) (h3:l<=h) (h4:h<=s.size):RD P E F o (.string (s.extract l h)):=by
 have:=fa (P:=P) (F:=F) (sl:=Y6) hh hl h3 h4;simp [RD,execOp,ho,hx,Instr.sliceAt,Instr.slice,aj,av h1,this]
end
section
variable {P:Program} {F:PH} {E:En} {o:Oper} {K:En->PH->Prop}
def mE (P:Program) (fs:Array Field):Array (Nat×Nat):=fs.map λf=>(f.offset,P.cellsOf f.type)
def jC (P:Program) (fs:Array Field):Bool:=fs.all λf=>(P.info? f.type).isSome
theorem yn {t:Nat} (h:(P.info? t).isSome=Y8):rdo P (sizeOf t) F (P.cellsOf t):=by
 cases hi:P.info? t with
 |none=>simp [hi] at h
 |some i=>
  have:tsz P t=Y3 (i.size,i.bytes):=by simp [tsz,hi]
  rw [bB this];simp [Program.cellsOf,hi]
theorem kD {α β:Type} (f:α->Sem β) (g:α->β):∀(l:List α),(∀x∈l,rdo P (f x) F (g x))->rdo P (l.mapM f) F (l.map g)
 |[],_=>by simp
 |x::l,h=>by have h1:=h x (Ya ..);have h2:=kD f g l λy hy=>h y (Xo _ hy);simp only [List.mapM_cons,aj,Xw];exact ⟨_,h1,_,h2,rfl⟩
theorem AI {fs:Array Field} (h:jC P fs=Y8):rdo P (fs.mapM λf=>do pure (f.offset,<- sizeOf f.type)) F (mE P fs):=by
 have hall:∀f∈fs.toList,(P.info? f.type).isSome=Y8:=by intro f hf;have:=Array.all_eq_true_iff_forall_mem.1 h f (by simpa using hf);exact this
 rw [Array.mapM_eq_mapM_toList];have:=kD (P:=P) (F:=F) (λf:Field=>(do pure (f.offset,<- sizeOf f.type):Sem (Nat×Nat))) (λf=>(f.offset,P.cellsOf f.type)) fs.toList
  (λf hf=>by simp only [aj];exact ⟨_,yn (hall f hf),rfl⟩)
 refine (Km _ _ _ _).2 ⟨_,this,?_⟩;apply Array.ext';simp [mE]
theorem tC {t:Nat} {parts:Array (Nat×Operand)} {fs:Array Field} {z:Value} {vs:List (Nat×Value)} {cells:Array Value} (ho:o.op=.build t parts) (h1:P.underlying t=Y3 (.struct fs)) (hz:bO P t=Y3 z)
  (hk:jC P fs=Y8) (hv:(parts.map λ(i,x)=>(i,ev E x)).toList=vs) (hf:Instr.fill (λi=>(mE P fs)[i]?) z.cells vs=Y3 cells):RD P E F o (.agg cells):=by
 simp only [RD,execOp,ho,aj,Instr.build,cK];refine ⟨_,⟨_,(gN hz _).2 rfl,_,(av h1 _).2 rfl,?_⟩,rfl⟩;simp only [aj];refine ⟨_,by have:=AI (P:=P) (F:=F) hk;simpa [aj] using this,?_⟩;rw [hv,hf];rfl
theorem wH {t n e' s b:Nat} {parts:Array (Nat×Operand)} {z:Value} {vs:List (Nat×Value)} {cells:Array Value} (ho:o.op=.build t parts) (h1:P.underlying t=Y3 (.array n e')) (hz:bO P t=Y3 z)
  (h2:tsz P e'=Y3 (s,b)) (hv:(parts.map λ(i,x)=>(i,ev E x)).toList=vs) (hf:Instr.fill (λi=>Y3 (i*s,s)) z.cells vs=Y3 cells):RD P E F o (.agg cells):=by
 simp only [RD,execOp,ho,aj,Instr.build,cK];refine ⟨_,⟨_,(gN hz _).2 rfl,_,(av h1 _).2 rfl,?_⟩,rfl⟩;simp only [aj,bB h2,exists_eq_left'];rw [hv,hf];rfl
theorem Kr {t:Nat} {z:Value} (ho:o.op=.alloc t) (hz:bO P t=Y3 z) (h:∀b,F b=Y5->K (cV E o.dst (.pointer (Y3 ⟨b,0,Y5⟩))) (F.set b (Y4 z.cells t))):
  aF P (execOp (ev E) o) F (bL P K o E):=by
 simp only [execOp,ho,Instr.alloc,aB,eP hz,aJ,bL,newVar,newRow,newObj];exact h
theorem Hx {t:Nat} {x:Operand} {v:Value} (ho:o.op=.box t x) (hx:ev E x=v) (h:∀b,F b=Y5->K (cV E o.dst (.pointer (Y3 ⟨b,0,Y5⟩))) (F.set b (Y4 v.cells t))):
  aF P (execOp (ev E) o) F (bL P K o E):=by
 simp only [execOp,ho,Instr.box,aB,aJ,bL,newVar,newRow,newObj,hx];exact h
theorem iP {t e' s b n:Nat} {parts:Array (Nat×Operand)} {z:Value} {vs:List (Nat×Value)} {cells:Array Value} (ho:o.op=.buildSlice t n parts) (h1:P.underlying t=Y3 (.slice e')) (h2:tsz P e'=Y3 (s,b))
  (hn:n*s<=16777216) (hz:bO P e'=Y3 z) (hv:(parts.map λ(i,x)=>(i,ev E x)).toList=vs) (hf:Instr.fill (λi=>Y3 (i*s,s)) (Builtin.zeroCells z.cells n) vs=Y3 cells) (hs:n*s=n*z.cells.size)
  (h:∀b,F b=Y5->K (cV E o.dst (.slice (Y3 ⟨b,0,Y5⟩) n n)) (F.set b (Y4 cells e'))):
  aF P (execOp (ev E) o) F (bL P K o E):=by
 simp only [execOp,ho,Instr.buildSlice,aB,bZ h1,fw h2];rw [Υ (by omega)];by_cases h0:n*s=0
 ·have hzz:(Array.range (n*s)).map (λi=>(#[]:Array Value)[i % (#[]:Array Value).size]!)=Builtin.zeroCells z.cells n:=by simp [Builtin.zeroCells,h0,<- hs]
  rw [Χ h0];simp only [aB,aJ];rw [hzz,hv,hf];simp only [aB,aJ,newRow,newObj,bL];exact h
 ·have hzz:(Array.range (n*s)).map (λi=>z.cells[i % z.cells.size]!)=Builtin.zeroCells z.cells n:=by simp [Builtin.zeroCells,hs]
  rw [Υ h0];simp only [aB,eP hz,aJ];rw [hzz,hv,hf];simp only [aB,aJ,newRow,newObj,bL];exact h
def wr (c:Array Value) (off:Nat):List Value->Array Value
 |[]=>c
 |v::vs=>wr (c.setIfInBounds off v) (off+1) vs
theorem d7 (vs:List Value):∀(c:Array Value) (off:Nat),(wr c off vs).size=c.size:=by
 induction vs with
 |nil=>intro c off;rfl
 |cons v vs ih=>intro c off;simp [wr,ih]
theorem wI (vs:List Value):∀(c:Array Value) (off i:Nat),off+vs.length<=c.size->(wr c off vs)[i]? =if off<=i/\i<off+vs.length then vs[i - off]? else c[i]? :=by
 induction vs with
 |nil=>intro c off i _;simp [wr];omega
 |cons v vs ih=>
  intro c off i h;simp only [Xl] at h;rw [wr,ih _ _ _ (by simp;omega),Array.getElem?_setIfInBounds];by_cases h1:off=i
  ·subst h1;rw [Υ (by omega),Χ rfl,Χ (by omega),Χ (by simp)];simp
  ·by_cases h2:off+1<=i/\i<off+1+vs.length
   ·rw [Χ h2,Χ (by simp;omega)];rw [show i - off=(i - (off+1))+1 by omega,XB]
   ·rw [Υ h2,Υ h1,Υ (by simp;omega)]
theorem C6 (F:PH) (b:Nat) (o o':Obj):(F.set b o).set b o'=F.set b o':=by funext x;unfold PH.set;split<;>rfl
theorem Kt (F:PH) (b:Nat) (o:Obj):(F.set b o) b=Y3 o:=by simp [PH.set]
theorem AJ (F:PH) {b x:Nat} (o:Obj) (h:x≠b):(F.set b o) x=F x:=by simp [PH.set,h]
theorem fI {e':TypeId}:∀(vs:List Value) (i:Nat) (F:PH) (a:Addr) (c:Array Value) (Q:Unit->PH->Prop),a.spot=Y5->F a.block=Y3 (Y4 c e' (0,0))->a.off+i+vs.length<=c.size->
  (∀v∈vs,ak v)->vs≠[]->Q () (F.set a.block (Y4 (wr c (a.off+i) vs) e'))->aF P (storeCells a vs i) F Q:=by
 intro vs;induction vs with
 |nil=>intro i F a c Q _ _ _ _ h;exact absurd rfl h
 |cons v vs ih=>
  intro i F a c Q hsp hb hl hst _ hq;simp only [Xl] at hl;have hoff:(a.add i).off=a.off+i:=by unfold Zb;split<;>simp_all
  have hblk:(a.add i).block=a.block:=by unfold Zb;split<;>rfl
  have hspo:(a.add i).spot=Y5:=by unfold Zb;split<;>simp_all
  simp only [storeCells,aB,store,aF];refine ⟨hst v (Ya ..),c,e',(0,0),by rw [hblk];exact hb,hspo,by rw [hoff];omega,by simp [frz],?_⟩;rw [hblk,hoff];cases vs with
  |nil=>exact hq
  |cons u us=>refine ih (i+1) _ a (c.setIfInBounds (a.off+i) v) Q hsp (Kt _ _ _) (by simp;simp at hl;omega) (λx hx=>hst x (Xo _ hx)) (by simp) ?_;rw [C6];exact hq
theorem Hy {t:Nat} {x y:Operand} {a:Addr} {v:Value} {c:Array Value} {e' s b:Nat} (ho:o.op=.store t x y) (hx:ev E x=.pointer (Y3 a)) (hy:ev E y=v) (hsz:tsz P t=Y3 (s,b)) (h1:v.cells= #[v]) (hs:s=1) (hst:ak v)
  (hsp:a.spot=Y5) (hb:F a.block=Y3 (Y4 c e' (0,0))) (hl:a.off<c.size) (h:K (cV E o.dst undef) (F.set a.block (Y4 (c.setIfInBounds a.off v) e'))):
  aF P (execOp (ev E) o) F (bL P K o E):=by
 subst hs;simp only [execOp,ho,hx,hy,Instr.storeAt,Instr.sureAddr,aB,aJ,storeVar,fw hsz,h1];simp only [YI,Xl,List.length_nil,ne_eq,Xm,not_true_eq_false,if_false];refine fI [v] 0 F a c _ hsp hb (by simp;omega) (by simpa using hst) (by simp) ?_;exact h
theorem Hz {t:Nat} {x y:Operand} {a:Addr} {vs c:Array Value} {e' s b:Nat} (ho:o.op=.store t x y) (hx:ev E x=.pointer (Y3 a)) (hy:ev E y=.agg vs) (hsz:tsz P t=Y3 (s,b)) (hs:vs.size=s) (hst:∀v∈vs.toList,ak v)
  (h0:vs.toList≠[]) (hsp:a.spot=Y5) (hb:F a.block=Y3 (Y4 c e' (0,0))) (hl:a.off+s<=c.size) (h:K (cV E o.dst undef) (F.set a.block (Y4 (wr c a.off vs.toList) e'))):
  aF P (execOp (ev E) o) F (bL P K o E):=by
 subst hs;simp only [execOp,ho,hx,hy,Instr.storeAt,Instr.sureAddr,aB,aJ,storeVar,fw hsz,Value.cells];simp only [ne_eq,not_true_eq_false,if_false];exact fI vs.toList 0 F a c _ hsp hb (by simpa using hl) hst h0 h
def aC (P:Program) (f:FuncId):Bool:=match P.funcs[f]? with|some fn=> !(fn.name== "runtime.NumGoroutine") && fn.body.isSome|none=>Y6
theorem kE {f:FuncId} {args:Array Value} {Q:Next->PH->Prop} (hc:aC P f=Y8) (h:Q (.enter f args) F):aF P (callFunc f args) F Q:=by
 unfold aC at hc;cases hf:P.funcs[f]? with
 |none=>simp [hf] at hc
 |some fn=>
  simp only [hf,XJ,Ye] at hc;simp only [callFunc,aB,program,aF,hf,hc.1];have:fn.body.isNone=Y6:=by cases hb:fn.body<;>simp_all
  simp only [this,XE,if_false,aJ];exact h
theorem Pc {f:FuncId} {args:Array Operand} {ts:Array TypeId} {vs:Array Value} (ho:o.op=.call {callee:=.value (.func f),args:=args,argTypes:=ts}) (hc:aC P f=Y8) (hv:args.map (ev E)=vs)
  (h:ai P f vs F λv F'=>K (cV E o.dst v) F'):aF P (execOp (ev E) o) F (bL P K o E):=by
 simp only [execOp,ho,resolve,ev,Deferred.ofValue,aB,aJ,invoke];refine kE hc ?_;rw [show args.map (λx=>ev E x)=vs from hv];simpa [bL] using h
theorem C7 {f:FuncId} {g:Operand} {args:Array Operand} {ts:Array TypeId} {vs first captured:Array Value} (ho:o.op=.call {callee:=.value g,args:=args,argTypes:=ts}) (hg:ev E g=.func (.func f) first captured) (hc:aC P f=Y8) (hv:args.map (ev E)=vs)
  (h:ai P f (first++vs++captured) F λv F'=>K (cV E o.dst v) F'):aF P (execOp (ev E) o) F (bL P K o E):=by
 simp only [execOp,ho,resolve,hg,Deferred.ofValue,aB,aJ,invoke];refine kE hc ?_;rw [show args.map (λx=>ev E x)=vs from hv];exact h
theorem Ku {f:FuncId} {g:Operand} {args:Array Operand} {ts:Array TypeId} {vs first captured:Array Value} (ho:o.op=.defer {callee:=.value g,args:=args,argTypes:=ts}) (hg:ev E g=.func (.func f) first captured) (hv:args.map (ev E)=vs)
  (hi:Av P ⟨.fn (.func f) captured,first++vs⟩) (h:K (cV E o.dst undef) F):aF P (execOp (ev E) o) F (bL P K o E):=by
 simp only [execOp,ho,resolve,hg,Deferred.ofValue,aB,aJ];rw [show args.map (λx=>ev E x)=vs from hv];exact ⟨hi,h⟩
theorem HB {x y:Operand} {ts:Array TypeId} {s u:Value} (ho:o.op=.call {callee:=.builtin .append,args:= #[x,y],argTypes:=ts}) (hx:ev E x=s) (hy:ev E y=u)
  (h:aF P (Builtin.append_ ts o.type #[s,u]) F λv F'=>K (cV E o.dst v) F'):aF P (execOp (ev E) o) F (bL P K o E):=by
 simp [execOp,ho,resolve,hx,hy,invoke,builtin,bL];exact h
theorem Pd {x y:Operand} {ts:Array TypeId} {s u:Value} (ho:o.op=.call {callee:=.builtin .copy,args:= #[x,y],argTypes:=ts}) (hx:ev E x=s) (hy:ev E y=u)
  (h:aF P (Builtin.copy_ ts o.type #[s,u]) F λv F'=>K (cV E o.dst v) F'):aF P (execOp (ev E) o) F (bL P K o E):=by
 simp [execOp,ho,resolve,hx,hy,invoke,builtin,bL];exact h
theorem yo {t:TypeId} {x y:Operand} {u v:Value} (ho:o.op=.makeSlice t x y) (hx:ev E x=u) (hy:ev E y=v)
  (h:aF P (Instr.makeSlice t u v) F λv F'=>K (cV E o.dst v) F'):aF P (execOp (ev E) o) F (bL P K o E):=by
 simp [execOp,ho,hx,hy,bL];exact h
theorem AK {t:TypeId} (ho:o.op=.makeMap t Y5) (h:∀b,F b=Y5->K (cV E o.dst (.map (Y3 b))) (F.set b (.map #[] 0))):
  aF P (execOp (ev E) o) F (bL P K o E):=by
 simp only [execOp,ho,Instr.makeMap,Option.map_none,newObj,aB,aJ,aF,bL];exact h
theorem oD {t:TypeId} {x y z:Operand} {u v q:Value} (ho:o.op=.mapUpdate t x y z) (hx:ev E x=u) (hy:ev E y=v) (hz:ev E z=q)
  (h:aF P (Instr.mapUpdate t u v q) F λ_ F'=>K (cV E o.dst undef) F'):aF P (execOp (ev E) o) F (bL P K o E):=by
 simp only [execOp,ho,hx,hy,hz,aB,aJ,bL];exact h
theorem yp {t:TypeId} {x y:Operand} {u v r:Value} {ok:Bool} (ho:o.op=.lookup t x y ok) (hx:ev E x=u) (hy:ev E y=v) (h:rdo P (Instr.lookup t u v ok) F r):RD P E F o r:=by simp only [RD,execOp,ho,hx,hy,aj,cK];exact ⟨r,h,rfl⟩
end
def atF (F:PH) (K:PH->Prop):Prop:=K F
theorem atE {F:PH} {K:PH->Prop} (h:atF F K):K F:=h
theorem atI {F:PH} {K:PH->Prop} (h:K F):atF F K:=h
section
variable {P:Program} {n:Nat} {Q:Exit->En->PH->Prop} {E:En} {F:PH} {ops:Array Oper} {l:List Oper} {d:Tmp} {op:Op} {ty:TypeId} {pos:String} {aft:Array Edge} {v:Value} {gd:Option (Nat×Bool)}
theorem yq {t:Nat} (h:E t=v):upd E t v=E:=by
 funext x;unfold upd;by_cases hx:x=t
 ·subst hx;have:Nat.beq x x=Y8:=by simp
  rw [this];exact h.symm
 ·rw [kR hx];rfl
theorem HD {c:Operand} {x y:Code} (hc:ev E c=.bool Y8) (h:HC P n x Q E F):HC P n (.cond c x y) Q E F:=qh hc (λ_=>h) (λh=>by cases h)
theorem HE {c:Operand} {x y:Code} (hc:ev E c=.bool Y6) (h:HC P n y Q E F):HC P n (.cond c x y) Q E F:=qh hc (λh=>by cases h) (λ_=>h)
section
variable {K:En->PH->Prop}
theorem NG {place:Nat->Option (Nat×Nat)} {cells r:Array Value} {i off:Nat} {v:Value} {rest:List (Nat×Value)} (hp:place i=Y3 (off,1)) (hv:v.cells= #[v]) (ho:Nat.blt off cells.size=Y8)
  (h:Instr.fill place (cells.setIfInBounds off v) rest=Y3 r):Instr.fill place cells ((i,v)::rest)=Y3 r:=by
 have ho':off<cells.size:=YE ho;simp only [Instr.fill,hp,hv];simp only [YI,Xl,List.length_nil];rw [Υ (by simp;omega)];simpa using h
theorem HF (vs:List Value):∀(c:Array Value) (off k:Nat),(vs.zipIdx k).foldl (λcs (x:Value×Nat)=>cs.setIfInBounds (off+x.2) x.1) c=wr c (off+k) vs:=by
 induction vs with
 |nil=>intro c off k;rfl
 |cons v vs ih=>intro c off k;simp only [List.zipIdx_cons,List.foldl_cons,wr];rw [ih];rfl
theorem NH {place:Nat->Option (Nat×Nat)} {cells cs r:Array Value} {i off s:Nat} {rest:List (Nat×Value)} (hp:place i=Y3 (off,s)) (hs:cs.size=s) (ho:Nat.ble (off+s) cells.size=Y8)
  (h:Instr.fill place (wr cells off cs.toList) rest=Y3 r):Instr.fill place cells ((i,.agg cs)::rest)=Y3 r:=by
 have ho':off+s<=cells.size:=YE ho;subst hs;have e:cs.zipIdx.foldl (λcs (x:Value×Nat)=>cs.setIfInBounds (off+x.2) x.1) cells=wr cells off cs.toList:=by have:=HF cs.toList cells off 0;rw [<- Array.foldl_toList];simpa using this
 unfold Instr.fill;rw [hp];show (if (decide (cs.size≠cs.size) || decide (off+cs.size>cells.size))=Y8 then Y5 else Instr.fill place (cs.zipIdx.foldl (λcs (x:Value×Nat)=>cs.setIfInBounds (off+x.2) x.1) cells) rest)=Y3 r;rw [e,Υ (by simp;omega)];exact h
theorem qn (z:Array Value) (hz:Nat.blt 0 z.size=Y8):∀n,Builtin.zeroCells z n=((List.replicate n z.toList).flatten).toArray:=by
 have hz':0<z.size:=YE hz;intro n;apply Array.ext';apply List.ext_getElem
 ·simp [Builtin.zeroCells,List.length_flatten]
 ·intro i h1 h2;simp only [Builtin.zeroCells,Array.toList_map,Array.toList_range,List.getElem_map,List.getElem_range];have key:∀n i (h:i<((List.replicate n z.toList).flatten).length),((List.replicate n z.toList).flatten)[i]=z[i % z.size]! :=by
   intro n;induction n with
   |zero=>intro i h;simp at h
   |succ n ih=>
    intro i h;have e:(List.replicate (n+1) z.toList).flatten=z.toList++(List.replicate n z.toList).flatten:=by simp [List.replicate_succ]
    by_cases hi:i<z.size
    ·have:((List.replicate (n+1) z.toList).flatten)[i]=z.toList[i]'(by simpa using hi):=by simp only [e];rw [List.getElem_append_left]
     rw [this,Nat.mod_eq_of_lt hi];simp [hi]
    ·have hl:i - z.size<((List.replicate n z.toList).flatten).length:=by simp [List.length_flatten,YJ] at h ⊢;omega
     have:((List.replicate (n+1) z.toList).flatten)[i]=((List.replicate n z.toList).flatten)[i - z.size]:=by simp only [e];rw [List.getElem_append_right (by simpa using hi)];simp
     have hm:i % z.size=(i - z.size) % z.size:=Nat.mod_eq_sub_mod (by omega);rw [this,ih _ hl,hm]
  exact (key n i (by simpa using h2)).symm
theorem Ej {z:Value} {cs:Array Value} {s:Nat} (hs:cs.size=s) (hz:z.cells.size=s) (h0:Nat.blt 0 s=Y8):Instr.fill (λi=>Y3 (i*s,s)) (Builtin.zeroCells z.cells 1) [(0,.agg cs)]=Y3 cs:=by
 have h1:Nat.blt 0 z.cells.size=Y8:=by rw [hz];exact h0
 rw [qn _ h1];have e:((List.replicate 1 z.cells.toList).flatten).toArray=z.cells:=by simp
 rw [e];refine NH (off:=0*s) rfl hs (by rw [hz];simp) ?_;have hw:wr z.cells 0 cs.toList=cs:=by
  apply Array.ext
  ·rw [d7,hz,hs]
  ·intro i h1 h2;have:=wI cs.toList z.cells 0 i (by simp [hz,hs]);rw [Χ (by simp;omega)] at this;simp only [Yn] at this;rw [Xu h1] at this;simp at this;rw [Xu h2] at this;exact Xy this
 rw [show 0*s=0 by omega,hw];rfl
def Kv:List Value->Prop
 |[]=>True
 |v::l=>v.cells= #[v]/\Kv l
def C8 (k:Nat):List Value->List (Nat×Value)
 |[]=>[]
 |v::l=>(k,v)::C8 (k+1) l
theorem Ek:∀(l:List Value) (k:Nat) (cells:Array Value),Kv l->k+l.length<=cells.size->Instr.fill (λi=>Y3 (i*1,1)) cells (C8 k l)=Y3 (wr cells k l):=by
 intro l;induction l with
 |nil=>intro k cells _ _;rfl
 |cons v l ih=>intro k cells ho hl;simp only [Xl] at hl;refine NG (off:=k) (by simp) ho.1 (Nat.ble_eq_true_of_le (by omega)) ?_;exact ih (k+1) _ ho.2 (by simp;omega)
theorem Kw {z:Value} {l:List Value} {m:Nat} {cells0:Array Value} (hm:l.length=m) (h0:Builtin.zeroCells z.cells m=cells0) (hz:z.cells.size=1) (ho:Kv l):Instr.fill (λi=>Y3 (i*1,1)) cells0 (C8 0 l)=Y3 l.toArray:=by
 subst hm;subst h0;have hs:(Builtin.zeroCells z.cells l.length).size=l.length:=by simp [Builtin.zeroCells,hz]
 rw [Ek l 0 _ ho (by rw [hs];omega)];congr 1;apply Array.ext
 ·rw [d7,hs];simp
 ·intro i h1 h2;have:=wI l (Builtin.zeroCells z.cells l.length) 0 i (by rw [hs];omega);rw [Χ (by simp at h2;omega)] at this;simp only [Yn] at this;rw [Xu h1] at this;simp at h2;rw [N5 h2] at this;simpa using Xy this
end
theorem NI {x:Operand} {k:IntKind} {i:Int} {m:Nat} (hx:ev E x=.int k i) (h:0<=i):dL (Option.map (ev E) (Y3 x)) m i.toNat:=.inr ⟨k,i,by simp [hx],h,rfl⟩
theorem wJ {m:Nat}:dL Y5 m m:=.inl ⟨rfl,rfl⟩
theorem NJ:gi [] F:=λ_ h=>by cases h
theorem NK {i:Nat} {S:World->Prop} {Sp:cv} (h:Ay F S) (hh:gi Sp F):gi ((i,S)::Sp) F:=λr hr=>by
 rcases W6.1 hr with rfl|hr
 ·exact h
 ·exact hh r hr
theorem NL {tmps:Array Value} {t:Nat} {v u:Value} (h:Array.getD tmps t undef=v) (hv:v=u):tmps[t]?.getD undef=u:=by rw [<- Yd,h,hv]
theorem HG {t s:Nat} {dd:TypeDesc} {a:Addr} {cs:Array Value} {b:Nat} {e:Ev} {w:World} (st:Sat e w F) (h1:P.underlying t=Y3 dd) (h2:kS dd=Y8) (h3:tsz P t=Y3 (s,b)) (hs:cs.size=s) (hr:F.row a cs):
  (loadVar t a).run P w=.ok (.agg cs) w:=by
 subst hs;refine qi _ F w _ ?_ st;simp [loadVar,aj,dK h1,h2,bB h3,fm hr]
theorem El {t:TypeId} {dd:TypeDesc} {a:Addr} {e:Ev} {w:World} (st:Sat e w F) (h1:P.underlying t=Y3 dd) (h2:kS dd=Y6) (hr:F.cell a=Y3 v):
  (loadVar t a).run P w=.ok v w:=by
 refine qi _ F w _ ?_ st;simp [loadVar,aj,dK h1,h2,load,rdo,hr]
def kT (P:Program) (E:En) (F:PH):ResultVar->Value->Prop
 | .tmp t,v=>E t=v
 | .cell x t,v=>∃a,E x=.pointer (Y3 a)/\∀e w,Sat e w F->(loadVar t a).run P w=.ok v w
theorem wK {t:Tmp} {v:Value} (hv:E t=v):kT P E F (.tmp t) v:=hv
theorem HH {x:Tmp} {t s:Nat} {dd:TypeDesc} {a:Addr} {cs:Array Value} {b:Nat} (hx:E x=.pointer (Y3 a)) (h1:P.underlying t=Y3 dd) (h2:kS dd=Y8) (h3:tsz P t=Y3 (s,b)) (hs:cs.size=s) (hr:F.row a cs):
  kT P E F (.cell x t) (.agg cs):=⟨a,hx,λ_ _ st=>HG st h1 h2 h3 hs hr⟩
theorem HI {x:Tmp} {t:Nat} {dd:TypeDesc} {a:Addr} {v:Value} (hx:E x=.pointer (Y3 a)) (h1:P.underlying t=Y3 dd) (h2:kS dd=Y6) (hr:F.cell a=Y3 v):
  kT P E F (.cell x t) v:=⟨a,hx,λ_ _ st=>El st h1 h2 hr⟩
theorem gO {r:ResultVar} {v:Value} (h:kT P E F r v) {e:Ev} {w:World} {tmps:Array Value} (st:Sat e w F) (ht:∀t:Nat,Array.getD tmps t undef=E t):
  (∃t,r=.tmp t/\tmps[t]?.getD undef=v)\/∃x t a,r=.cell x t/\tmps[x]?.getD undef=.pointer (Y3 a)/\(loadVar t a).run P w=.ok v w:=by
 cases r with
 |tmp t=>exact .inl ⟨t,rfl,NL (ht t) h⟩
 |cell x t=>obtain ⟨a,h1,h2⟩:=h;exact .inr ⟨x,t,a,rfl,NL (ht x) h1,h2 e w st⟩
theorem WA {fn:Func} (h:fn.results= #[]):sg P fn E F (.tuple #[]):=λe w tmps _ _=>by simp [results,h]
theorem Uq {fn:Func} {r:ResultVar} {v:Value} (h:fn.results= #[r]) (hv:kT P E F r v):sg P fn E F v:=λe w tmps st ht=>by have k:=gO hv st ht;clear ht hv;rcases k with ⟨t,rfl,h1⟩|⟨x,t,a,rfl,h1,h2⟩<;>simp [results,asAddr, *]
theorem Ur {fn:Func} {r r':ResultVar} {v v':Value} (h:fn.results= #[r,r']) (hv:kT P E F r v) (hv':kT P E F r' v'):sg P fn E F (.tuple #[v,v']):=λe w tmps st ht=>by have k:=gO hv st ht;have k':=gO hv' st ht;clear ht hv hv';rcases k with ⟨t,rfl,h1⟩|⟨x,t,a,rfl,h1,h2⟩<;>rcases k' with ⟨t',rfl,h3⟩|⟨x',t',a',rfl,h3,h4⟩<;>simp [results,asAddr, *]
theorem WB {fn:Func} {r r' r'':ResultVar} {v v' v'':Value} (h:fn.results= #[r,r',r'']) (hv:kT P E F r v) (hv':kT P E F r' v') (hv'':kT P E F r'' v''):sg P fn E F (.tuple #[v,v',v'']):=λe w tmps st ht=>by have k:=gO hv st ht;have k':=gO hv' st ht;have k'':=gO hv'' st ht;clear ht hv hv' hv'';rcases k with ⟨t,rfl,h1⟩|⟨x,t,a,rfl,h1,h2⟩<;>rcases k' with ⟨t',rfl,h3⟩|⟨x',t',a',rfl,h3,h4⟩<;>rcases k'' with ⟨t'',rfl,h5⟩|⟨x'',t'',a'',rfl,h5,h6⟩<;>simp [results,asAddr, *]
theorem rt1 (fn:Func) (R:Value->PH->Prop) {t:Tmp} {v:Value} (h1:fn.results= #[.tmp t]) (h2:E t=v) (h:R v F):Kg P fn R .ret E F:=⟨v,Uq h1 (wK h2),h⟩
theorem rt2 (fn:Func) (R:Value->PH->Prop) {t t':Tmp} {v v':Value} (h1:fn.results= #[.tmp t,.tmp t']) (h2:E t=v) (h3:E t'=v') (h:R (.tuple #[v,v']) F):Kg P fn R .ret E F:=⟨_,Ur h1 (wK h2) (wK h3),h⟩
theorem jD {k:IntKind} {x:Int}:ak (.int k x):=⟨(λ_ h=>by cases h),(λ_ h=>by cases h)⟩
theorem HJ {x:Sl}:ak x.v:=⟨(λ_ h=>by cases h),(λ_ h=>by cases h)⟩
end
theorem am (F:PH):F.le F:=λ_ _ h=>h
theorem aa {F G H:PH} (h:F.le G) (k:G.le H):F.le H:=λb o hb=>k b o (h b o hb)
theorem ae {F:PH} {b:Nat} (o:Obj) (h:F b=Y5):F.le (F.set b o):=λx o' hx=>by
 unfold PH.set;by_cases hb:x=b
 ·subst hb;rw [h] at hx;cases hx
 ·simp [hb,hx]
theorem aI {F G:PH} (h:F.le G) {a:Addr} {v:Value} (hc:F.cell a=Y3 v):G.cell a=Y3 v:=by
 unfold PH.cell at*;cases hb:F a.block with
 |none=>simp [hb] at hc
 |some o=>rw [h _ _ hb];rw [hb] at hc;exact hc
theorem aS {F G:PH} (h:F.le G) {b:Nat} (hb:G b=Y5):F b=Y5:=by
 cases hf:F b with
 |none=>rfl
 |some o=>rw [h _ _ hf] at hb;cases hb
theorem aG {F:PH} {b c:Nat} {o:Obj} (hb:F b=Y5) (hc:F c=Y3 o):c≠b:=by intro e;subst e;rw [hb] at hc;cases hc
@[simp] theorem aE (b o i:Nat):Zb ⟨b,o,Y5⟩ i=⟨b,o+i,Y5⟩:=by unfold Zb;split<;>simp_all
@[simp] theorem al (F:PH) (b:Nat) (o:Obj):(F.set b o) b=Y3 o:=by simp [PH.set]
theorem az (F:PH) {b x:Nat} (o:Obj) (h:x≠b):(F.set b o) x=F x:=by simp [PH.set,h]
@[simp] theorem aT (F:PH) (b:Nat) (o o':Obj):(F.set b o).set b o'=F.set b o':=C6 F b o o'
theorem aq {F:PH} {b i:Nat} {c:Array Value} {e:TypeId} {fr:Nat×Nat} (h:F b=Y3 (Y4 c e fr)):F.cell ⟨b,i,Y5⟩=c[i]? :=by simp [PH.cell,h]
@[simp] theorem NM (F:PH) (b i:Nat) (c:Array Value) (e:TypeId) (fr:Nat×Nat):(F.set b (Y4 c e fr)).cell ⟨b,i,Y5⟩=c[i]? :=by simp [PH.cell]
def dE (fp:Nat->Prop) (F G:PH):Prop:=∀b o,F b=Y3 o->¬fp b->G b=Y3 o
theorem dE.refl (fp:Nat->Prop) (F:PH):dE fp F F:=λ_ _ h _=>h
theorem dE.trans {fp:Nat->Prop} {F G H:PH} (h:dE fp F G) (k:dE fp G H):dE fp F H:=λb o hb hn=>k b o (h b o hb hn) hn
theorem dE.of_le {fp:Nat->Prop} {F G:PH} (h:F.le G):dE fp F G:=λb o hb _=>h b o hb
theorem dE.set {fp:Nat->Prop} {F:PH} {b:Nat} (o:Obj) (h:fp b\/F b=Y5):dE fp F (F.set b o):=λx o' hx hn=>by
 by_cases hb:x=b
 ·subst hb;rcases h with h|h
  ·exact absurd h hn
  ·rw [h] at hx;cases hx
 ·rw [az F o hb];exact hx
structure RdS (F:PH) (s:Sl) (size:Nat) (vs:List Value):Prop where
 len:vs.length=s.len*size
 cap:s.len<=s.cap
 cells:0<s.len->∃b o,s.YZ=Y3 ⟨b,o,Y5⟩/\∀i,(h:i<vs.length)->F.cell ⟨b,o+i,Y5⟩=Y3 vs[i]
theorem RdS.le {F G:PH} {s:Sl} {size:Nat} {vs:List Value} (h:RdS F s size vs) (hl:F.le G):RdS G s size vs:=
 ⟨h.len,h.cap,λhp=>by
  obtain ⟨b,o,h1,h2⟩:=h.cells hp
  exact ⟨b,o,h1,λi hi=>aI hl (h2 i hi)⟩⟩
theorem RdS.nil (F:PH) (size:Nat):RdS F Sl.nil size []:=⟨by simp [Sl.nil],by simp [Sl.nil],by simp [Sl.nil]⟩
theorem RdS.new {F:PH} {b n cap size:Nat} {c:Array Value} {e:TypeId} {fr:Nat×Nat} {vs:List Value} (h:F b=Y3 (Y4 c e fr)) (hv:c.toList.take (n*size)=vs) (hl:vs.length=n*size) (hc:n<=cap):
  RdS F ⟨Y3 ⟨b,0,Y5⟩,n,cap⟩ size vs:=⟨hl,hc,λ_=>⟨b,0,rfl,λi hi=>by
   rw [aq h];subst hv
   simp at hi ⊢⟩⟩
theorem RdS.row {F:PH} {s:Sl} {size:Nat} {vs:List Value} (h:RdS F s size vs) {a:Addr} (ha:s.YZ=Y3 a) (k:Nat) (cs:Array Value) (hk:cs.toList=(vs.drop k).take cs.size):F.row (a.add k) cs:=by
 intro i hi;have hlen:k+i<vs.length:=by have:=congrArg List.length hk;rw [Xe,YR,Xb] at this;omega
 have hp:0<s.len:=by
  rcases Yl s.len with h0|h0
  ·have:=h.len;rw [h0,Yf] at this;omega
  ·exact h0
 obtain ⟨b,o,h1,h2⟩:=h.cells hp;rw [ha] at h1;cases h1;simp only [aE];rw [Nat.add_assoc,h2 (k+i) hlen];have e1:cs.toList[i]? =Y3 cs[i]:=by simp [hi]
 rw [hk,XG hi,List.getElem?_drop,N5 hlen] at e1;exact e1
theorem RdS.cell {F:PH} {s:Sl} {vs:List Value} (h:RdS F s 1 vs) {a:Addr} (ha:s.YZ=Y3 a) {i:Nat} (hi:i<vs.length):F.cell (a.add i)=Y3 vs[i]:=by
 have hp:0<s.len:=by have:=h.len;omega
 obtain ⟨b,o,h1,h2⟩:=h.cells hp;rw [ha] at h1;cases h1;simp only [aE];exact h2 i hi
theorem RdS.cut {F:PH} {s:Sl} {size:Nat} {vs:List Value} (h:RdS F s size vs) {l r m:Nat} (h1:l<=r) (h2:r<=s.len) (h3:r<=m):RdS F (s.cut size l r m) size ((vs.drop (l*size)).take ((r - l)*size)):=by
 have hle:(r - l)*size<=s.len*size - l*size:=by rw [<- Nat.sub_mul];exact Yb _ (by omega)
 refine ⟨by rw [Xe,YR,h.len];simp only [Sl.cut];omega,by simp only [Sl.cut];omega,λhp=> ?_⟩;simp only [Sl.cut] at hp ⊢;obtain ⟨b,o,h4,h5⟩:=h.cells (by omega);have hm:¬m=l:=by omega
 refine ⟨b,o+l*size,by simp [hm,h4],λi hi=> ?_⟩;simp only [Xe,YR] at hi;rw [Nat.add_assoc,h5 (l*size+i) (by omega)];simp [List.getElem_take,List.getElem_drop]
theorem mF {P:Program} {n:Nat} {F:PH} {Q:Unit->PH->Prop} (h:Q () F):aF P (askRoom n) F Q:=by
 unfold askRoom;split
 ·exact h
 ·exact h
theorem bU {P:Program} {t e size bytes:Nat} {z:Value} {n c:Int} {k k':IntKind} {F:PH} {Q:Value->PH->Prop} (ht:P.underlying t=Y3 (.slice e)) (hs:tsz P e=Y3 (size,bytes)) (hz:bO P e=Y3 z) (hzs:z.cells.size=size)
  (h0:0<=n) (hnc:n<=c) (hc:(bytes:Int)*c<=281474976710656) (hc63:c<=9223372036854775807)
  (h:∀b,F b=Y5->Q (Sl.v ⟨Y3 ⟨b,0,Y5⟩,n.toNat,c.toNat⟩) (F.set b (Y4 (Builtin.zeroCells z.cells c.toNat) e))):
  aF P (Instr.makeSlice t (.int k n) (.int k' c)) F Q:=by
 obtain ⟨i,hi,hti⟩:=fL hs;have e1:IntKind.i64.wrap n=n:=aP (by omega);have e2:IntKind.i64.wrap c=c:=aP (by omega);simp only [Instr.makeSlice,aB,bZ ht,asInt,asIntOf,aJ,hti,hi,e1,e2];have hc0:0<=c:=by omega
 have g1:decide (c<0)=Y6:=by simpa using hc0
 have g2:decide ((bytes:Int)*c>2 ^ 48)=Y6:=by simp;omega
 have g3:decide (n<0)=Y6:=by simpa using h0
 have g4:decide (n>c)=Y6:=by simp;omega
 simp only [g1,g2,g3,g4,YT,XE,if_false,aB];refine mF ?_;simp only [fw hs];have fin:∀zz:Array Value,(Array.range (c.toNat*size)).map (λi=>zz[i % zz.size]!)=Builtin.zeroCells z.cells c.toNat->
   aF P (do let a <- newRow e ((Array.range (c.toNat*size)).map (λi=>zz[i % zz.size]!));pure (Value.slice (Y3 a) n.toNat c.toNat)) F Q:=by
  intro zz hzz;rw [hzz];simp only [newRow,newObj,aB,aF,aJ];exact h
 by_cases hn0:c.toNat*size=0
 ·simp only [hn0,if_true];have:=fin #[] (by simp [Builtin.zeroCells,hn0,hzs]);simp only [hn0] at this;exact this
 ·simp only [Υ hn0,aB,eP hz,aJ];exact fin z.cells (by simp [Builtin.zeroCells,hzs])
theorem i8 {P:Program} {F:PH} {s:Sl} {size n:Nat} {vs:List Value} {Q:Array Value->PH->Prop} (h:RdS F s size vs) (hn:n<=s.len) (hq:Q (vs.take (n*size)).toArray F):aF P (Builtin.firstCells size n s.v) F Q:=by
 obtain ⟨YZ,len,cap⟩:=s;cases YZ with
 |none=>
  have h0:len=0:=by
   rcases Yl len with h0|h0
   ·exact h0
   ·obtain ⟨b,o,h1,_⟩:=h.cells h0;cases h1
  have hn0:n=0:=by simp only at hn;omega
  have:=h.len;simp only [h0,Yf,XV] at this;subst this;simpa [Sl.v,Builtin.firstCells] using hq
 |some a=>
  simp only [Sl.v,Builtin.firstCells];have hlen:(vs.take (n*size)).toArray.size=n*size:=by have h1:=h.len;have h2:n*size<=len*size:=Yb _ hn;simp only at h1;rw [YI,Xe,h1];omega
  refine ij _ _ _ _ ?_ hq;have key:F.row a (vs.take (n*size)).toArray->rdo P (loadCells a (n*size)) F (vs.take (n*size)).toArray:=λhr=>by have:=fm (P:=P) hr;rw [hlen] at this;exact this
  refine key ?_;by_cases hz:n*size=0
  ·intro i hi;rw [hlen,hz] at hi;omega
  ·have:=h.row (a:=a) rfl 0 (vs.take (n*size)).toArray (by rw [hlen];simp);simpa [Zb] using this
theorem jE {P:Program} {F:PH} {s x:Sl} {t e size bytes ty:Nat} {z:Value} {olds news:List Value} {Q:Value->PH->Prop} (ht:P.underlying t=Y3 (.slice e)) (hsz:tsz P e=Y3 (size,bytes)) (hz:bO P e=Y3 z) (_:z.cells.size=size)
  (ho:RdS F s size olds) (hn:RdS F x size news) (hst:∀v∈news,ak v) (hfit:(s.len+x.len)*bytes<=140737488355328) (hlen:s.len+x.len<=9223372036854775807)
  (h0:x.len*size=0->s.len+x.len<=s.cap->Q (Sl.v ⟨s.YZ,s.len+x.len,s.cap⟩) F)
  (h1:0<x.len*size->s.len+x.len<=s.cap->∃b o c e',s.YZ=Y3 ⟨b,o,Y5⟩/\F b=Y3 (Y4 c e' (0,0))/\o+s.len*size+x.len*size<=c.size/\
   Q (Sl.v ⟨s.YZ,s.len+x.len,s.cap⟩) (F.set b (Y4 (wr c (o+s.len*size) news) e')))
  (h2:s.cap<s.len+x.len->∀cap b,s.len+x.len<=cap->F b=Y5->Q (Sl.v ⟨Y3 ⟨b,0,Y5⟩,s.len+x.len,cap⟩) (F.set b (Y4 (olds.toArray++news.toArray++Builtin.zeroCells z.cells (cap - (s.len+x.len))) e))):
  aF P (Builtin.append_ #[t,t] ty #[s.v,x.v]) F Q:=by
 have hnl:=hn.len;have hol:=ho.len;have hfn:∀Q',Q' news.toArray F->aF P (Builtin.firstCells size x.len x.v) F Q':=λQ' hq=>i8 hn (W8 _) (by rw [<- hnl,Xg];exact hq);have hfo:∀Q',Q' olds.toArray F->aF P (Builtin.firstCells size s.len s.v) F Q':=λQ' hq=>i8 ho (W8 _) (by rw [<- hol,Xg];exact hq);obtain ⟨YZ,len,cap⟩:=s;obtain ⟨xb,xl,xc⟩:=x;simp only [Builtin.append_,aB,Sl.v,List.getElem?_toArray,List.getElem?_cons_zero,XB,bZ ht,Builtin.lenOf,aJ,fw hsz,XE,if_false,Bool.not_false,if_true] at*;obtain ⟨i,hib,hti⟩:=fL hsz;by_cases hroom:len+xl<=cap
 ·rw [Χ hroom];simp only [aB];refine hfn _ ?_;by_cases hz0:xl*size=0
  ·have hnil:news=[]:=Xp (by rw [hnl,hz0]);cases YZ with
   |none=>exact h0 hz0 hroom
   |some a=>simp only [hnil,storeCells,aB,aJ];exact h0 hz0 hroom
  ·obtain ⟨b,o,c,e',g1,g2,g3,g4⟩:=h1 (by omega) hroom;cases g1;simp only [aB];refine fI news 0 F _ c _ (by simp) (by simpa using g2) (by simp only [aE];rw [hnl];omega) hst (λhnn=>hz0 (by rw [<- hnl,hnn];rfl)) ?_;simpa using g4
 ·rw [Υ hroom];simp only [aB,hti]
  rw [Υ (by
   rintro ⟨ha,hb⟩;have:(IntKind.i64.max:Int)=9223372036854775807:=by decide
   rw [this] at ha
   omega)]
  have hg:=growslice_fits (need:=len+xl) (old:=cap) (bytes:=bytes) (by omega) hfit;simp only [aB,hti];rw [Υ (by rw [hib];omega)];simp only [aB,choose];unfold aF;rw [Υ (by simp [Question.forced])];intro tt;simp only [aF,hti];refine mF ?_;refine hfo _ ?_;refine hfn _ ?_;simp only [eP hz,newRow,newObj,aB,aF,aJ];intro b hb;exact h2 (by omega) _ b (by simp only [Question.cut];omega) hb
open Go.ChangeShapes Go.WideShapes Go.ChangeAt Go.RowKit
def hF (W:World):PH:=λb=>W.heap[b]?
theorem C9 {W:World} {a:Addr} {v:Value} (h:W.cell? a=Y3 v):(hF W).cell a=Y3 v:=h
theorem tD {P:Program} {f:FuncId} {args:Array Value} {W:World} (h:ai P f args (hF W) λv F'=>v=.bool Y8/\(hF W).le F'):
  Calls P f args W λe W'=>e=.returned (.bool Y8)/\Below W.heap.size W W':=by
 refine (h ⟨W.os,W.tape,W.output,λ_=>Y5⟩ W ⟨rfl,rfl,rfl,λb o hb=>hb,λb o hb=>(by cases hb)⟩).mono ?_;rintro e W' ⟨v,F',rfl,hs,rfl,hle⟩;have key:∀(k:Nat) (o:Obj),W.heap[k]? =Y3 o->W'.heap[k]? =Y3 o:=λk o hk=>hs.heap k o (hle k o hk);refine ⟨rfl,hs.os,hs.tape,hs.output,?_,λk hk=> ?_⟩
 ·rcases Yl W.heap.size with h0|h0
  ·omega
  ·have h1:=key (W.heap.size - 1) _ (Xu (by omega));have h2:=(Array.getElem?_eq_some_iff.1 h1).1;omega
 ·rw [Xu hk];exact key k _ (Xu hk)
section
variable {H:Type} {enc:TypeId×Value->H} {P:Program} {W W':World}
theorem kF (hl:laidOutB P=Y8) {sp:Nat->Bool} (hb:Below W.heap.size W W'):∀{ts:List TypeId} {vs:List Value} {ds:List (DataW H)} {ps:List MemPlace},
  ts.all (λt=>P.readableRec t && decide (t<P.types.size))=Y8->DataW.TrodAll enc P W 0 (λ_=>Y8) Y8 ts vs ds ps->(∀x∈ps,x.block<W.heap.size)->(∀x∈ps,sp x.block=Y8)->DataW.TrodAll enc P W' 0 sp Y8 ts vs ds ps
 |[],vs,ds,ps,_,h,_,_=>by obtain ⟨rfl,rfl,rfl⟩:=trodAll_nil h;rfl
 |t::ts,vs,ds,ps,ha,h,hlt,hsp=>by
  obtain ⟨v,vs',d,ds',p,q,rfl,rfl,rfl,h1,h2⟩:=trodAll_cons h;rw [YL,XJ,XJ,δ] at ha;obtain ⟨⟨hr,hrow⟩,ha⟩:=ha
  exact ⟨p,q,WideElems.Trod_stays hl hr hrow h1 (λx hx=>hb.same (hlt x (Yq _ hx))) (λx hx=>hsp x (Yq _ hx)),
   kF hl hb ha h2 (λx hx=>hlt x (List.mem_append_right _ hx)) (λx hx=>hsp x (List.mem_append_right _ hx)),rfl⟩
theorem Em {f:Func} {s:ChangeSpec} {args:Array Value} {ds gs:List (DataW H)} {before:List MemPlace} {tb:TypeId} {fresh:Bool}
  (hl:laidOutB P=Y8) (hv:s.vars=[]) (hW:DataW.Whole enc P f.params.toList s.vars Y6 W args.toList ds gs before) (hall:f.params.toList.all (λt=>P.readableRec t && decide (t<P.types.size))=Y8)
  (hr:f.resultTypes= #[tb]) (htb:P.underlying tb=Y3 .bool) (hb:Below W.heap.size W W')
  (hs:s.fn H (ds++gs)={results:=[.lit (.bool Y8)],args:=ds}):
  s.post enc P f Y6 fresh Y6 Y6 W args (.bool Y8) W':=by
 have hW':=hW;obtain ⟨p,q,hA,hV,rfl,_,_⟩:=hW;rw [hv] at hV;obtain ⟨rfl,rfl⟩:=trodVars_none hV;have hlt:∀x∈p,x.block<W.heap.size:=λx hx=>by simpa using hW'.lt x (Yq _ hx)
 refine ⟨ds,[],p++[],[],p,[],hW',?_,?_,?_,hb.frame _,λh=>by cases h⟩
 ·rw [hs,hr];exact trodAll_cons_mk (shut_bool htb _) trodAll_mk0
 ·rw [hs];exact kF hl hb hall hA hlt (λx hx=>by simpa using hlt x hx)
 ·rw [hs,hv];rfl
end
set_option maxRecDepth 10000
def bt (f:Nat->Bool):Nat->Nat
 |0=>0
 |n+1=>2 ^ n*(if f n then 1 else 0)+bt f n
theorem sB (f:Nat->Bool):∀n,bt f n<2 ^ n
 |0=>by simp [bt]
 |n+1=>by have:=sB f n;unfold bt;rw [Nat.pow_succ];split<;>omega
theorem wL (f:Nat->Bool):∀n j,(bt f n).testBit j=(decide (j<n) && f j)
 |0,j=>by simp [bt]
 |n+1,j=>by
  unfold bt;rw [X3 _ (sB f n)];split
  ·rename_i h;rw [wL f n j];simp [h,show j<n+1 by omega]
  ·rename_i h;by_cases hj:j=n
   ·subst hj;cases f j<;>simp
   ·have:j - n≠0:=by omega
    rw [show decide (j<n+1)=Y6 by simp;omega];split
    ·have:=YN (n:=0) (m:=j - n);rw [Nat.pow_zero] at this;rw [this];simp;omega
    ·simp
theorem uy {x n:Nat} {f:Nat->Bool} (hx:x<2 ^ n) (h:∀j,j<n->x.testBit j=f j):x=bt f n:=
 Nat.eq_of_testBit_eq λj=>by
  rw [wL];by_cases hj:j<n
  ·rw [h j hj];simp [hj]
  ·rw [Nat.testBit_lt_two_pow (Nat.lt_of_lt_of_le hx (XO (by omega) (by omega)))];simp [hj]
theorem HK {n:Nat} {f g:Nat->Bool} (h:∀j,j<n->f j=g j):bt f n=bt g n:=
 uy (sB f n) λj hj=>by rw [wL,h j hj];simp [hj]
def wd (P:Nat->Bool) (k:Nat):Nat:=bt (λj=>P (64*k+j)) 64
theorem oE (P:Nat->Bool) (k:Nat):wd P k<18446744073709551616:=sB _ 64
theorem iQ (P:Nat->Bool) (k:Nat) {j:Nat} (hj:j<64):(wd P k).testBit j=P (64*k+j):=by unfold wd;rw [wL];simp [hj]
theorem wM (k:Nat):wd (λ_=>Y6) k=0:=(uy (x:=0) (by decide) λj _=>by simp).symm
theorem Us (P Q:Nat->Bool) (k:Nat):wd (λi=>P i || Q i) k=wd P k ||| wd Q k:=
 (uy (x:=wd P k ||| wd Q k) (Nat.or_lt_two_pow (sB _ 64) (sB _ 64)) λj hj=>by rw [Nat.testBit_or,iQ P k hj,iQ Q k hj]).symm
theorem Pe (P Q:Nat->Bool) (k:Nat):wd (λi=>P i && Q i) k=wd P k &&& wd Q k:=
 (uy (x:=wd P k &&& wd Q k) (Nat.and_lt_two_pow _ (sB _ 64)) λj hj=>by rw [Nat.testBit_and,iQ P k hj,iQ Q k hj]).symm
theorem iR {P:Nat->Bool} {k:Nat}:wd P k=0↔∀j,j<64->P (64*k+j)=Y6:=by
 constructor
 ·intro h j hj;have:=iQ P k hj;rw [h] at this;simpa using this.symm
 ·intro h;exact (uy (x:=0) (by decide) λj hj=>by rw [h j hj];simp).symm
theorem mH {x:Int} (h1:0<=x) (h2:x<18446744073709551616):IntKind.u64.wrap x=x:=by unfold IntKind.wrap;simp only [IntKind.bits,IntKind.signed];simp only [Bool.false_and,XE,if_false];omega
theorem Da {a:Nat} (h:a<18446744073709551616):(BitVec.ofInt (IntKind.u64).bits (a:Int)).toNat=a:=by
 rw [BitVec.toNat_ofInt];show ((a:Int) % ((2 ^ 64:Nat):Int)).toNat=a;have:((2 ^ 64:Nat):Int)=18446744073709551616:=by decide
 rw [this];omega
theorem HM {a b:Nat} (ha:a<18446744073709551616) (hb:b<18446744073709551616):IntKind.u64.wrap ((BitVec.ofInt (IntKind.u64).bits (a:Int) ||| BitVec.ofInt (IntKind.u64).bits (b:Int)).toNat)=((a ||| b:Nat):Int):=by rw [BitVec.toNat_or,Da ha,Da hb];have:a ||| b<2 ^ 64:=Nat.or_lt_two_pow ha hb;exact mH (by omega) (by omega)
theorem wO {a b:Nat} (ha:a<18446744073709551616) (hb:b<18446744073709551616):IntKind.u64.wrap ((BitVec.ofInt (IntKind.u64).bits (a:Int) &&& BitVec.ofInt (IntKind.u64).bits (b:Int)).toNat)=((a &&& b:Nat):Int):=by rw [BitVec.toNat_and,Da ha,Da hb];have:a &&& b<2 ^ 64:=Nat.and_lt_two_pow _ hb;exact mH (by omega) (by omega)
def Low (x t:Nat):Prop:=∃m,x=2 ^ (t+1)*m+2 ^ t
theorem Low.of {x t:Nat} (h1:x.testBit t=Y8) (h2:∀j,j<t->x.testBit j=Y6):Low x t:=by
 refine ⟨x / 2 ^ (t+1),Nat.eq_of_testBit_eq λj=> ?_⟩;rw [X3 _ (Nat.pow_lt_pow_right (by omega) (by omega))];split
 ·rename_i h;rw [YN];by_cases hj:j=t
  ·subst hj;rw [h1];simp
  ·rw [h2 j (by omega)];simp;omega
 ·rw [Nat.testBit_div_two_pow];congr 1;omega
theorem Low.pos {x t:Nat} (h:Low x t):0<x:=by obtain ⟨m,rfl⟩:=h;have:=Nat.two_pow_pos t;omega
theorem Low.clear {x t:Nat} (h:Low x t) (j:Nat):(x &&& (x - 1)).testBit j=(x.testBit j && decide (j≠t)):=by
 obtain ⟨m,rfl⟩:=h;have hp:=Nat.two_pow_pos t;have e:2 ^ (t+1)*m+2 ^ t - 1=2 ^ (t+1)*m+(2 ^ t - 1):=by omega
 have l1:2 ^ t<2 ^ (t+1):=Nat.pow_lt_pow_right (by omega) (by omega);rw [e,Nat.testBit_and,X3 _ l1,X3 _ (by omega)];split
 ·rw [YN,Nat.testBit_two_pow_sub_one];by_cases hj:t=j
  ·subst hj;simp
  ·simp [hj]
 ·rename_i h;rw [Bool.and_self];simp;omega
theorem Low.neg {x t:Nat} (h:Low x t) (hx:x<2 ^ 64):x &&& (2 ^ 64 - x)=2 ^ t:=by
 have ht:t<64:=by
  rcases Nat.lt_or_ge t 64 with h1|h1
  ·exact h1
  ·obtain ⟨m,rfl⟩:=h;have:=XO (n:=2) (by omega) h1;omega
 obtain ⟨m,rfl⟩:=h;have hp:=Nat.two_pow_pos t;have l1:2 ^ t<2 ^ (t+1):=Nat.pow_lt_pow_right (by omega) (by omega);have e64:(2:Nat) ^ 64=2 ^ (t+1)*2 ^ (63 - t):=by rw [<- Nat.pow_add];congr 1;omega
 have hm:m<2 ^ (63 - t):=by
  rcases Nat.lt_or_ge m (2 ^ (63 - t)) with h1|h1
  ·exact h1
  ·have:=Nat.mul_le_mul_left (2 ^ (t+1)) h1;omega
 have e:2 ^ 64 - (2 ^ (t+1)*m+2 ^ t)=2 ^ (t+1)*(2 ^ (63 - t) - (m+1))+2 ^ t:=by
  have h2:2 ^ (t+1)=2 ^ t+2 ^ t:=by rw [Nat.pow_succ];omega
  have:2 ^ (t+1)*(2 ^ (63 - t) - (m+1))=2 ^ (t+1)*2 ^ (63 - t) - 2 ^ (t+1)*(m+1):=Nat.mul_sub _ _ _;rw [this,<- e64,Nat.mul_add,Xz];have:2 ^ (t+1)*m+2 ^ (t+1)<=2 ^ 64:=by rw [e64];have:=Nat.mul_le_mul_left (2 ^ (t+1)) (show m+1<=2 ^ (63 - t) by omega);rw [Nat.mul_add,Xz] at this;exact this
  omega
 rw [e];refine Nat.eq_of_testBit_eq λj=> ?_;rw [Nat.testBit_and,X3 _ l1,X3 _ l1,YN];split
 ·rw [Bool.and_self]
 ·rename_i h;rw [Nat.testBit_two_pow_sub_succ hm];have:decide (t=j)=Y6:=by simp;omega
  rw [this];cases m.testBit (j - (t+1))<;>simp
def yr:List Nat:=[0,1,56,2,57,49,28,3,61,58,42,50,38,29,17,4,62,47,59,36,45,43,51,22,53,39,33,30,24,18,12,5,63,55,48,27,60,41,37,16,46,35,44,21,52,32,23,11,54,26,40,15,34,20,31,10,25,14,19,9,13,8,7,6]
theorem Ut:∀t,t<64->(2 ^ t*285870213051353865 % 18446744073709551616) / 288230376151711744<64/\yr[(2 ^ t*285870213051353865 % 18446744073709551616) / 288230376151711744]? =Y3 t:=by decide
section
variable {P:Program} {F:PH} {E:En} {o:Oper} {x y:Operand} {t t':TypeId}
theorem oF {op:BinOp} {c d:Array Value} (h:P.eqGuardType P.depth t=Y6):rdo P (eqGuard op t x y (.agg c) (.agg d)) F ():=by cases op<;>simp [eqGuard,program,aj,rdo,h]
theorem Kx {c d:Array Value} {r:Bool} (ho:o.op=.binOp .eql t x y t') (hx:ev E x=.agg c) (hy:ev E y=.agg d) (hg:P.eqGuardType P.depth t=Y6) (he:rdo P (Op.equal t (.agg c) (.agg d)) F r):
  RD P E F o (.bool r):=qj ho hx hy (oF hg) he rfl
theorem Ky {c d:Array Value} {r:Bool} (ho:o.op=.binOp .neq t x y t') (hx:ev E x=.agg c) (hy:ev E y=.agg d) (hg:P.eqGuardType P.depth t=Y6) (he:rdo P (Op.equal t (.agg c) (.agg d)) F r):
  RD P E F o (.bool (!r)):=ql ho hx hy (oF hg) he rfl
end
section
end
section
variable {K:Type} [DecidableEq K]
structure oG (P:Program) (kt:TypeId) (enc:K->Value):Prop where
 eq:∀F a b,rdo P (Op.equal kt (enc a) (enc b)) F (decide (a=b))
 chk:∀F e a,rdo P (Instr.checkKey e 10000 kt (enc a)) F ()
 same:∀a,Instr.sameBits 10000 (enc a) (enc a)=Y8
 kind:∃d,P.underlying kt=Y3 d/\((∀a b,Instr.sameNow d (enc a) (enc b)=Y3 (decide (a=b)))\/∀a b,Instr.sameNow d (enc a) (enc b)=Y5)
structure gj (P:Program) (mt:TypeId) (enc:K->Value) (z:Value):Prop where
 ex:∃kt e,P.underlying mt=Y3 (.map kt e)/\bO P e=Y3 z/\oG P kt enc
def lk (k:K):List (K×Value)->Option Value
 |[]=>Y5
 |p::r=>if k=p.1 then Y3 p.2 else lk k r
def fnd (k:K):List (K×Value)->Nat->Option (Nat×Value)
 |[],_=>Y5
 |p::r,i=>if k=p.1 then Y3 (i,p.2) else fnd k r (i+1)
def upL (k:K) (v:Value):List (K×Value)->List (K×Value)
 |[]=>[(k,v)]
 |p::r=>if k=p.1 then (k,v)::r else p::upL k v r
theorem AL (k k':K) (v:Value):∀(L:List (K×Value)),lk k' (upL k v L)=if k'=k then Y3 v else lk k' L
 |[]=>rfl
 |p::r=>by
  unfold upL;split
  ·rename_i h;simp only [lk];split
   ·rfl
   ·rename_i hn;rw [Υ (by rw [<- h];exact hn)]
  ·rename_i h;simp only [lk,AL k k' v r];split
   ·rename_i h2;rw [Υ (by rintro rfl;exact h h2)]
   ·rfl
theorem mI (k:K) (v:Value):∀(L:List (K×Value)) (i:Nat),fnd k L i=Y5->lk k L=Y5/\upL k v L=L++[(k,v)]
 |[],_,_=>⟨rfl,rfl⟩
 |p::r,i,h=>by
  unfold fnd at h;split at h
  ·cases h
  ·rename_i hn;obtain ⟨h1,h2⟩:=mI k v r _ h;exact ⟨by unfold lk;rw [Υ hn,h1],by unfold upL;rw [Υ hn,h2];rfl⟩
theorem mJ (k:K) (v:Value):∀(L:List (K×Value)) (i j:Nat) (w:Value),fnd k L i=Y3 (j,w)->∃d,j=i+d/\d<L.length/\L[d]? =Y3 (k,w)/\lk k L=Y3 w/\upL k v L=L.set d (k,v)
 |[],_,_,_,h=>by cases h
 |p::r,i,j,w,h=>by
  unfold fnd at h;split at h
  ·rename_i hp;cases h;refine ⟨0,rfl,by simp,?_,by unfold lk;rw [Χ hp],by unfold upL;rw [Χ hp];rfl⟩;subst hp;rfl
  ·rename_i hn;obtain ⟨d,h1,h2,h3,h4,h5⟩:=mJ k v r _ _ _ h;exact ⟨d+1,by omega,by simp only [Xl];omega,by simpa using h3,by unfold lk;rw [Υ hn,h4],by unfold upL;rw [Υ hn,h5];rfl⟩
def eJ (enc:K->Value) (m:K->Option Value) (o:Obj):Prop:=
 ∃(es:Array MapEntry) (c:Nat) (L:List (K×Value)),o=.map es c/\es.toList.map (λe=>(e.key,e.val))=L.map (λp=>(enc p.1,p.2))/\∀k,m k=lk k L
theorem eJ.empty (enc:K->Value):eJ enc (λ_=>Y5) (.map #[] 0):=⟨#[],0,[],rfl,rfl,λ_=>rfl⟩
theorem eJ.not_cells {enc:K->Value} {m:K->Option Value} {o:Obj} (h:eJ enc m o):∀c e fr,o≠Y4 c e fr:=by obtain ⟨es,c,L,rfl,_⟩:=h;intro c e fr h;cases h
variable {P:Program} {F:PH} {kt mt:TypeId} {enc:K->Value} {z:Value}
theorem jF (hk:oG P kt enc) (k:K):∀(es:List MapEntry) (L:List (K×Value)) (i:Nat),es.map (λe=>(e.key,e.val))=L.map (λp=>(enc p.1,p.2))->
  rdo P (Instr.findAsking kt (enc k) es i) F (fnd k L i)
 |[],[],_,_=>rfl
 |[],_::_,_,h=>by cases h
 |_::_,[],_,h=>by cases h
 |e::es,p::L,i,h=>by
  simp only [Xw,List.cons.injEq,YU] at h;obtain ⟨⟨h1,h2⟩,h3⟩:=h;simp only [Instr.findAsking,aj];refine ⟨_,by rw [h1];exact hk.eq F k p.1,?_⟩;unfold fnd;by_cases hp:k=p.1
  ·simp [hp,h2]
  ·simpa [hp] using jF hk k es L (i+1) h3
theorem sC {d:TypeDesc} (hs:∀a b,Instr.sameNow d (enc a) (enc b)=Y3 (decide (a=b))) (k:K):∀(es:List MapEntry) (L:List (K×Value)) (i:Nat),es.map (λe=>(e.key,e.val))=L.map (λp=>(enc p.1,p.2))->
  Instr.findNow d (enc k) es i=Y3 (fnd k L i)
 |[],[],_,_=>rfl
 |[],_::_,_,h=>by cases h
 |_::_,[],_,h=>by cases h
 |e::es,p::L,i,h=>by
  simp only [Xw,List.cons.injEq,YU] at h;obtain ⟨⟨h1,h2⟩,h3⟩:=h;simp only [Instr.findNow,h1,hs];unfold fnd;by_cases hp:k=p.1
  ·simp [hp,h2]
  ·simpa [hp] using sC hs k es L (i+1) h3
theorem gD (hk:oG P kt enc) (k:K) (es:List MapEntry) (L:List (K×Value)) (h:es.map (λe=>(e.key,e.val))=L.map (λp=>(enc p.1,p.2))):
  rdo P (Instr.findKey kt (enc k) es) F (fnd k L 0):=by
 obtain ⟨d,hd,hs⟩:=hk.kind;unfold Instr.findKey;simp only [aj];refine ⟨d,(av hd _).2 rfl,?_⟩;rcases hs with hs|hs
 ·rw [sC hs k es L 0 h];rfl
 ·cases es with
  |nil=>
   cases L with
   |nil=>rfl
   |cons _ _=>cases h
  |cons e es=>
   cases L with
   |nil=>cases h
   |cons p L=>
    have h1:e.key=enc p.1:=by simp only [Xw,List.cons.injEq,YU] at h;exact h.1.1
    have:Instr.findNow d (enc k) (e::es) 0=Y5:=by simp only [Instr.findNow,h1,hs]
    rw [this];exact jF hk k _ _ 0 h
theorem bJ (hm:gj P mt enc z) {r:Nat} {o:Obj} {m:K->Option Value} (hr:F r=Y3 o) (ho:eJ enc m o) (k:K) (ok:Bool):
  rdo P (Instr.lookup mt (.map (Y3 r)) (enc k) ok) F (if ok then .tuple #[(m k).getD z,.bool (m k).isSome] else (m k).getD z):=by
 obtain ⟨kt,e,h1,h2,hk⟩:=hm.ex;have hnc:=ho.not_cells;obtain ⟨es,c,L,rfl,h3,h4⟩:=ho;have hf:=λw=>mJ k w L 0;have hn:=mI k z L 0;unfold Instr.lookup;simp only [aj];refine ⟨_,(av h1 _).2 rfl,?_⟩;simp only [aj];refine ⟨_,⟨_,hr,hnc,rfl⟩,?_⟩;simp only [aj];refine ⟨es,rfl,(),hk.chk F _ k,?_⟩;cases hfd:fnd k L 0 with
 |none=>refine ⟨_,gD hk k _ _ h3,?_⟩;rw [hfd];simp only [aj];refine ⟨z,(gN h2 _).2 rfl,_,rfl,?_⟩;rw [h4,(hn hfd).1];rfl
 |some q=>obtain ⟨j,v⟩:=q;obtain ⟨d,_,_,_,h5,_⟩:=hf z j v hfd;refine ⟨_,gD hk k _ _ h3,?_⟩;rw [hfd];simp only [aj];refine ⟨_,rfl,?_⟩;rw [h4,h5];rfl
theorem aV (hm:gj P mt enc z) {r:Nat} {o:Obj} {m:K->Option Value} (hr:F r=Y3 o) (ho:eJ enc m o) (k:K) (v:Value) {Q:Unit->PH->Prop}
  (h:∀o',eJ enc (λk'=>if k'=k then Y3 v else m k') o'->Q () (F.set r o')):aF P (Instr.mapUpdate mt (.map (Y3 r)) (enc k) v) F Q:=by
 obtain ⟨kt,e,h1,h2,hk⟩:=hm.ex;have hnc:=ho.not_cells;obtain ⟨es,c,L,rfl,h3,h4⟩:=ho;have hf:=mJ k v L 0;have hn:=mI k v L 0;unfold Instr.mapUpdate;simp only [aB,bZ h1];refine ⟨_,hr,hnc,?_⟩;rw [show (Sem.pure (Obj.map es c):Sem Obj)=pure (Obj.map es c) from rfl];simp only [aJ,aB];refine ij _ _ _ _ (hk.chk F _ k) ?_;refine ij _ _ _ _ (gD hk k _ _ h3) ?_;have hmm:∀k',(if k'=k then Y3 v else m k')=lk k' (upL k v L):=λk'=>by rw [AL,h4]
 cases hfd:fnd k L 0 with
 |none=>refine ⟨_,hr,hnc,h _ ⟨_,_,upL k v L,rfl,?_,hmm⟩⟩;rw [(hn hfd).2];simp [h3]
 |some q=>
  obtain ⟨j,w⟩:=q;obtain ⟨d,hj,hd,h5,h6,h7⟩:=hf j w hfd;obtain rfl:j=d:=by omega
  have hlen:es.size=L.length:=by simpa using congrArg List.length h3
  have hkey:(es[j]?.map (·.key)).getD (enc k)=enc k:=by
   have:=congrArg (λl=>l[j]?) h3;simp only [Xj,h5,XT] at this;have hj2:j<es.size:=by omega
   simp [hj2] at this ⊢;exact this.1
  simp only [aB,hkey,Instr.keyThatStays,hk.same,if_true,aJ];refine ⟨_,hr,hnc,h _ ⟨_,_,upL k v L,rfl,?_,hmm⟩⟩;rw [h7];apply XR;intro i;have h3i:=congrArg (λl=>l[i]?) h3;simp only [Xj] at h3i;simp only [Array.toList_modify,Xj,Yr,Yt];by_cases hi:j=i
  ·subst hi;have hj2:j<es.toList.length:=by simpa [hlen] using hd
   rw [N5 hj2];simp [hd]
  ·simp only [hi,if_false];simpa using h3i
end
theorem st1 {F:PH} {b o:Nat} {v:Value} {c:Array Value} {e:TypeId} {K:PH->Prop} (h:F b=Y3 (Y4 c e (0,0))) (hl:o<c.size) (k:K (F.set b (Y4 (c.setIfInBounds o v) e))):
  ∃c e,F (Zc b o Y5).block=Y3 (Y4 c e (0,0))/\(Zc b o Y5).spot=Y5/\(Zc b o Y5).off<c.size/\
   atF (F.set (Zc b o Y5).block (Y4 (c.setIfInBounds (Zc b o Y5).off v) e)) K:=⟨c,e,h,rfl,hl,k⟩
theorem sE {F:PH} {A:Addr} {b o:Nat} {v:Value} {c:Array Value} {e:TypeId} {K:PH->Prop} (hA:A=⟨b,o,Y5⟩) (h:F b=Y3 (Y4 c e (0,0))) (hl:o<c.size) (k:K (F.set b (Y4 (c.setIfInBounds o v) e))):
  ∃c e,F A.block=Y3 (Y4 c e (0,0))/\A.spot=Y5/\A.off<c.size/\atF (F.set A.block (Y4 (c.setIfInBounds A.off v) e)) K:=by
 subst hA;exact st1 h hl k
theorem HN {c d:Array Value} (h:c.size=d.size):wr c 0 d.toList=d:=by
 apply Array.ext
 ·rw [d7,h]
 ·intro i h1 h2;have:=wI d.toList c 0 i (by simp [h]);rw [Χ (by simp;omega)] at this;simp only [Yn] at this;rw [Xu h1] at this;simp at this;rw [Xu h2] at this;exact Xy this
theorem stW {F:PH} {b n:Nat} {v c:Array Value} {e:TypeId} {K:PH->Prop} (h:F b=Y3 (Y4 c e (0,0))) (hs:v.size=n) (hc:c.size=n) (hst:∀x∈v.toList,ak x) (k:K (F.set b (Y4 v e))):
  v.size=n/\(∀x∈v.toList,ak x)/\∃c e,F (Zc b 0 Y5).block=Y3 (Y4 c e (0,0))/\(Zc b 0 Y5).spot=Y5/\(Zc b 0 Y5).off+n<=c.size/\
   atF (F.set (Zc b 0 Y5).block (Y4 (wr c (Zc b 0 Y5).off v.toList) e)) K:=
 ⟨hs,hst,c,e,h,rfl,by simp [hc],by
  unfold atF;rw [show (Zc b 0 Y5).off=0 from rfl,HN (by rw [hc,hs])]
  exact k⟩
theorem zc1 (v:Value) (h:v.cells= #[v]) (n:Nat):Builtin.zeroCells v.cells n=(List.replicate n v).toArray:=by
 rw [qn _ (by rw [h];rfl),h];congr 1;induction n with
 |zero=>rfl
 |succ n ih=>simp [List.replicate_succ,ih]
theorem Uu {n:Nat} (h:n<=9223372036854775807):IntKind.i64.wrap (n:Int)=n:=aP (by omega)
theorem fz {n:Nat} (h:n<9223372036854775807):IntKind.i64.wrap ((n:Int)+1)=((n+1:Nat):Int):=by rw [aP (by omega)];omega
theorem dM (vs:List Value):∀(c:List Value) (o:Nat),o+vs.length<=c.length->wr c.toArray o vs=(c.take o++vs++c.drop (o+vs.length)).toArray:=by
 intro c o h;apply Array.ext
 ·rw [d7];simp;omega
 ·intro i h1 h2;have:=wI vs c.toArray o i (by simpa using h);rw [Xu h1] at this;rw [d7] at h1;simp only [YI] at h1;have h3:(c.take o++vs++c.drop (o+vs.length)).toArray[i]=(c.take o++vs++c.drop (o+vs.length))[i]'(by simpa using h2):=by simp
  rw [h3];apply Xy;rw [<- N5,this];by_cases hi:i<o
  ·rw [Υ (by omega),XA,Xh (by simp;omega)];simp [hi]
  ·by_cases hj:i<o+vs.length
   ·rw [Χ ⟨by omega,hj⟩,Xh (by simp;omega),Xn (by simp;omega)];simp;congr 1;omega
   ·rw [Υ (by omega),Xn (by simp;omega)];simp;congr 1;omega
def bV (F:PH) (e size:Nat) (s:Sl) (vs:List Value):Prop:=
 (s=Sl.nil/\vs=[])\/∃b cur,s.YZ=Y3 ⟨b,0,Y5⟩/\F b=Y3 (Y4 cur e (0,0))/\cur.size=s.cap*size/\s.len<=s.cap/\vs.length=s.len*size/\cur.toList.take (s.len*size)=vs
theorem bV.rd {F:PH} {e size:Nat} {s:Sl} {vs:List Value} (h:bV F e size s vs):RdS F s size vs:=by
 rcases h with ⟨rfl,rfl⟩|⟨b,cur,h1,h2,h3,h4,h5,h6⟩
 ·exact RdS.nil F size
 ·obtain ⟨YZ,len,cap⟩:=s;cases h1;exact RdS.new h2 h6 h5 h4
theorem bV.keep {F G:PH} {e size:Nat} {s:Sl} {vs:List Value} (h:bV F e size s vs) (hk:∀a,s.YZ=Y3 a->G a.block=F a.block):bV G e size s vs:=by
 rcases h with h|⟨b,cur,h1,h2,h3⟩
 ·exact .inl h
 ·exact .inr ⟨b,cur,h1,(hk _ h1).trans h2,h3⟩
theorem sF {F:PH} {s x:Sl} {t e size bytes ty:Nat} {z:Value} {P:Program} {olds news:List Value} {Q:Value->PH->Prop} (ht:P.underlying t=Y3 (.slice e)) (hsz:tsz P e=Y3 (size,bytes)) (hz:bO P e=Y3 z) (hzs:z.cells.size=size) (hs0:0<size)
  (ho:bV F e size s olds) (hn:RdS F x size news) (hx:0<x.len) (hst:∀v∈news,ak v) (hfit:(s.len+x.len)*bytes<=140737488355328) (hlen:s.len+x.len<=9223372036854775807)
  (h:∀s' F' b o,F'=F.set b o->bV F' e size s' (olds++news)->s'.len=s.len+x.len->(∀a,s'.YZ=Y3 a->a.block=b)->((∃a,s.YZ=Y3 a/\a.block=b)\/F b=Y5)->Q s'.v F'):
  aF P (Builtin.append_ #[t,t] ty #[s.v,x.v]) F Q:=by
 have hpos:0<x.len*size:=Nat.mul_pos hx hs0;have hol:=ho.rd.len;refine jE ht hsz hz hzs ho.rd hn hst hfit hlen (λh0=>by omega) ?_ ?_
 ·intro _ hroom;rcases ho with ⟨rfl,rfl⟩|⟨b,cur,h1,h2,h3,h4,h5,h6⟩
  ·simp [Sl.nil] at hroom;omega
  ·have hle:s.len*size+x.len*size<=cur.size:=by rw [h3,<- YJ];exact Yb _ hroom
   refine ⟨b,0,cur,e,h1,h2,by omega,?_⟩;refine h ⟨_,_,_⟩ _ b _ rfl (.inr ⟨b,_,h1,al _ _ _,by rw [d7,h3],hroom,by simp [h5,hn.len,YJ],?_⟩) rfl (λa ha=>by rw [h1] at ha;cases ha;rfl) (.inl ⟨_,h1,rfl⟩);simp only [Xm];have hw:=dM news cur.toList (s.len*size) (by simp [hn.len];omega);rw [show cur.toList.toArray=cur by simp] at hw;rw [hw];simp only;rw [h6,YJ];rw [Xs (by simp [h5,hn.len]),Xf (by simp [h5,hn.len])]
 ·intro hgt cap b hc hb;refine h ⟨_,_,_⟩ _ b _ rfl (.inr ⟨b,_,rfl,al _ _ _,?_,hc,by simp [hol,hn.len,YJ],?_⟩) rfl (λa ha=>by cases ha;rfl) (.inr hb)
  ·simp [Builtin.zeroCells,hzs,hol,hn.len];rw [<- YJ,<- YJ];congr 1;omega
  ·simp only [List.append_toArray,Array.toList_append];rw [Xs (by simp [hol,hn.len,YJ]),Xf (by simp [hol,hn.len,YJ])]
theorem oH {F:PH} {s x:Sl} {t e size bytes ty:Nat} {z:Value} {P:Program} {olds news:List Value} {Q:Value->PH->Prop} (ht:P.underlying t=Y3 (.slice e)) (hsz:tsz P e=Y3 (size,bytes)) (hz:bO P e=Y3 z) (hzs:z.cells.size=size)
  (ho:bV F e size s olds) (hn:RdS F x size news) (hx:x.len=0) (hfit:s.len*bytes<=140737488355328) (hlen:s.len<=9223372036854775807)
  (h:Q s.v F):aF P (Builtin.append_ #[t,t] ty #[s.v,x.v]) F Q:=by
 have hnil:news=[]:=Xp (by rw [hn.len,hx,Yf]);subst hnil;refine jE ht hsz hz hzs ho.rd hn (by simp) (by rw [hx];exact hfit) (by rw [hx];exact hlen) (λ_ _=> ?_) (λh1=> ?_) (λh1=> ?_)
 ·rw [hx];exact h
 ·rw [hx] at h1;simp at h1
 ·have:=ho.rd.cap;omega
theorem iS {F0 F:PH} {s x:Sl} {t e size bytes ty:Nat} {z:Value} {P:Program} {olds news:List Value} {Q:Value->PH->Prop} (ht:P.underlying t=Y3 (.slice e)) (hsz:tsz P e=Y3 (size,bytes)) (hz:bO P e=Y3 z) (hzs:z.cells.size=size) (hs0:0<size)
  (hle:F0.le F) (ho:bV F e size s olds) (hnew:∀a,s.YZ=Y3 a->F0 a.block=Y5) (hn:RdS F x size news) (hst:∀v∈news,ak v) (hfit:(s.len+x.len)*bytes<=140737488355328) (hlen:s.len+x.len<=9223372036854775807)
  (h:∀s' F',F0.le F'->bV F' e size s' (olds++news)->s'.len=s.len+x.len->(∀a,s'.YZ=Y3 a->F0 a.block=Y5)->dE (λb=>∃a,s.YZ=Y3 a/\a.block=b) F F'->(∀a,s'.YZ=Y3 a->(∃a',s.YZ=Y3 a'/\a'.block=a.block)\/F a.block=Y5)->Q s'.v F'):
  aF P (Builtin.append_ #[t,t] ty #[s.v,x.v]) F Q:=by
 by_cases h0:x.len=0
 ·have hnil:news=[]:=Xp (by rw [hn.len,h0,Yf]);refine oH ht hsz hz hzs ho hn h0 (by rw [h0] at hfit;exact hfit) (by omega) ?_;refine h s F hle (by rw [hnil,XH];exact ho) (by omega) hnew (dE.refl _ _) (λa ha=> .inl ⟨a,ha,rfl⟩)
 ·refine sF ht hsz hz hzs hs0 ho hn (by omega) hst hfit hlen ?_;rintro s' F' b ob rfl ho' hl' hbase hb;have hb0:F0 b=Y5:=by
   rcases hb with ⟨a,ha,rfl⟩|hb
   ·exact hnew a ha
   ·exact aS hle hb
  refine h s' _ (λy o hy=> ?_) ho' hl' (λa ha=>by rw [hbase a ha];exact hb0) (λy o hy hn=> ?_) (λa ha=> ?_)
  ·rw [az _ _ (λe=>by rw [e,hb0] at hy;cases hy)];exact hle _ _ hy
  ·rw [az]
   ·exact hy
   ·rintro rfl;rcases hb with hb|hb
    ·exact hn hb
    ·rw [hb] at hy;cases hy
  ·rw [hbase a ha];exact hb
theorem ac {F:PH} {b e:Nat} {c:Array Value} {fr:Nat×Nat} (h:F b=Y3 (Y4 c e fr)):F.row (Zc b 0 Y5) c:=by intro i hi;rw [aE,aq h];simp
theorem aw {F0 F:PH} {b:Nat} {o:Obj} (h:F0.le F) (hb:F0 b=Y5):F0.le (F.set b o):=λy o' hy=>by rw [az _ _ (λe=>by rw [e,hb] at hy;cases hy)];exact h _ _ hy
theorem ai.upon {P:Program} {f:FuncId} {args:Array Value} {F F2:PH} {R:Value->PH->Prop} (h:ai P f args F R) (hle:F.le F2):
  ai P f args F2 λv F'=>∃G,R v G/\G.le F'/\∀b o,F b=Y5->F2 b=Y3 o->F' b=Y3 o/\G b=Y5:=by
 have e:F2=F.and (λb=>if (F b).isNone then F2 b else Y5):=by
  funext b;cases hf:F b with
  |some o=>rw [PH.and_left hf];exact hle b o hf
  |none=>rw [PH.and_right hf];simp [hf]
 have hb:=h.beside (H:=λb=>if (F b).isNone then F2 b else Y5) (λb o hb=>by
  cases hf:F b with
  |some o'=>simp [hf] at hb
  |none=>rfl)
 rw [<- e] at hb;refine hb.mono ?_;rintro v F' ⟨G,hr,rfl,hd⟩;refine ⟨G,hr,λb o hb=>PH.and_left hb,λb o hb ho=> ?_⟩;have hH:(λb=>if (F b).isNone then F2 b else Y5) b=Y3 o:=by simp [hb,ho]
 have hG:=hd b o hH;exact ⟨(PH.and_right hG).trans hH,hG⟩
inductive Tr where
 |Y0 (b:Bool)
 |Y1 (v:Nat) (l h:Tr)
deriving DecidableEq
abbrev Cf:=Nat->Bool
def Cf.set (c:Cf) (v:Nat) (b:Bool):Cf:=λi=>if i=v then b else c i
namespace Tr
def top:Tr->Nat
 |Y0 _=>64
 |Y1 v _ _=>v
def ev:Tr->Cf->Bool
 |Y0 b,_=>b
 |Y1 v l h,c=>if c v=Y8 then h.ev c else l.ev c
def ok:Tr->Prop
 |Y0 _=>True
 |Y1 v l h=>v<64/\v<l.top/\v<h.top/\l≠h/\l.ok/\h.ok
def sz:Tr->Nat
 |Y0 _=>1
 |Y1 _ l h=>l.sz+h.sz+1
def mk (v:Nat) (l h:Tr):Tr:=if l=h then l else Y1 v l h
def lo (v:Nat):Tr->Tr
 |Y0 b=>Y0 b
 |Y1 w l h=>if w=v then l else Y1 w l h
def hi (v:Nat):Tr->Tr
 |Y0 b=>Y0 b
 |Y1 w l h=>if w=v then h else Y1 w l h
def isL:Tr->Bool
 |Y0 _=>Y8
 |Y1 _ _ _=>Y6
theorem sG {t:Tr} (h:t.ok) (hl:t.isL=Y6):t.top<64:=by
 cases t with
 |Y0 b=>cases hl
 |Y1 v l r=>exact h.1
theorem kU:∀(t:Tr),0<t.sz
 |Y0 _=>Nat.one_pos
 |Y1 _ _ _=>Nat.succ_pos _
theorem sH:∀(t:Tr),t.ok->∀(c d:Cf),(∀i,t.top<=i->c i=d i)->t.ev c=t.ev d
 |Y0 _,_,_,_,_=>rfl
 |Y1 v l h,⟨_,h1,h2,_,h4,h5⟩,c,d,hc=>by simp only [ev];rw [hc v (W8 _),sH l h4 c d (λi hi=>hc i (by simp only [top];omega)),sH h h5 c d (λi hi=>hc i (by simp only [top];omega))]
theorem kV {t:Tr} (h:t.ok) {v:Nat} (hv:v<t.top) (c:Cf) (b:Bool):t.ev (c.set v b)=t.ev c:=
 sH t h _ _ λi hi=>by unfold Cf.set;rw [Υ (by omega)]
theorem Uv:∀(n:Nat) (a b:Tr),a.sz+b.sz<=n->a.ok->b.ok->(∀c,a.ev c=b.ev c)->a=b:=by
 intro n;induction n with
 |zero=>intro a b hn;have:=kU a;omega
 |succ n ih=>
  have key:∀(v:Nat) (l h b:Tr),(Y1 v l h).sz+b.sz<=n+1->(Y1 v l h).ok->b.ok->v<b.top->(∀c,(Y1 v l h).ev c=b.ev c)->False:=by
   rintro v l h b hn ⟨h0,h1,h2,h3,h4,h5⟩ hb hv he;have hp:=kU b;simp only [sz] at hn;refine h3 (ih l h (by omega) h4 h5 λc=> ?_);have e1:=he (c.set v Y6);have e2:=he (c.set v Y8);rw [kV hb hv] at e1 e2;have f1:(Y1 v l h).ev (c.set v Y6)=l.ev c:=by simp only [ev];rw [Υ (by simp [Cf.set]),kV h4 h1]
   have f2:(Y1 v l h).ev (c.set v Y8)=h.ev c:=by simp only [ev];rw [Χ (by simp [Cf.set]),kV h5 h2]
   rw [<- f1,<- f2,e1,e2]
  intro a b hn ha hb he;cases a with
  |Y0 x=>
   cases b with
   |Y0 y=>exact congrArg Y0 (he (λ_=>Y6))
   |Y1 v l h=>exact (key v l h (Y0 x) (by omega) hb trivial hb.1 (λc=>(he c).symm)).elim
  |Y1 v l h=>
   by_cases h1:v<b.top
   ·exact (key v l h b hn ha hb h1 he).elim
   cases b with
   |Y0 y=>exact (h1 ha.1).elim
   |Y1 w l' h'=>
    simp only [top] at h1;by_cases h2:w<v
    ·exact (key w l' h' (Y1 v l h) (by omega) hb ha h2 (λc=>(he c).symm)).elim
    obtain rfl:v=w:=by omega
    obtain ⟨h0,a1,a2,a3,a4,a5⟩:=ha;obtain ⟨_,b1,b2,b3,b4,b5⟩:=hb;simp only [sz] at hn;have e1:l=l':=ih l l' (by omega) a4 b4 λc=>by have:=he (c.set v Y6);simp only [ev] at this;rw [Υ (by simp [Cf.set]),Υ (by simp [Cf.set]),kV a4 a1,kV b4 b1] at this;exact this
    have e2:h=h':=ih h h' (by omega) a5 b5 λc=>by have:=he (c.set v Y8);simp only [ev] at this;rw [Χ (by simp [Cf.set]),Χ (by simp [Cf.set]),kV a5 a2,kV b5 b2] at this;exact this
    rw [e1,e2]
theorem eQ {a b:Tr} (ha:a.ok) (hb:b.ok) (he:∀c,a.ev c=b.ev c):a=b:=Uv _ a b (W8 _) ha hb he
theorem Db {v:Nat} {l h:Tr} (hv:v<64) (h1:v<l.top) (h2:v<h.top) (h3:l.ok) (h4:h.ok):(mk v l h).ok:=by
 unfold mk;split
 ·exact h3
 ·rename_i hn;exact ⟨hv,h1,h2,hn,h3,h4⟩
theorem Pf {v:Nat} {l h:Tr} (h1:v<l.top):v<=(mk v l h).top:=by
 unfold mk;split
 ·omega
 ·exact W8 _
theorem NN (v:Nat) (l h:Tr) (c:Cf):(mk v l h).ev c=if c v=Y8 then h.ev c else l.ev c:=by
 unfold mk;split
 ·rename_i e;subst e;simp
 ·rfl
theorem cy {t:Tr} (h:t.ok) {v:Nat} (hv:v<=t.top):(lo v t).ok/\(v<64->v<(lo v t).top)/\(lo v t).sz<=t.sz/\(t.top=v->t.isL=Y6->(lo v t).sz<t.sz)/\
  ∀c,c v=Y6->(lo v t).ev c=t.ev c:=by
 cases t with
 |Y0 b=>exact ⟨trivial,λh=>h,W8 _,λ_ h=>(by cases h),λ_ _=>rfl⟩
 |Y1 w l r=>
  obtain ⟨h0,h1,h2,h3,h4,h5⟩:=h;simp only [lo];split
  ·rename_i e;subst e;refine ⟨h4,λ_=>h1,by simp only [sz];omega,λ_ _=>by simp only [sz];omega,λc hc=> ?_⟩;simp [ev,hc]
  ·rename_i e;refine ⟨⟨h0,h1,h2,h3,h4,h5⟩,λ_=> ?_,W8 _,λhe=> ?_,λ_ _=>rfl⟩
   ·simp only [top] at hv ⊢;omega
   ·simp only [top] at he;omega
theorem cz {t:Tr} (h:t.ok) {v:Nat} (hv:v<=t.top):(hi v t).ok/\(v<64->v<(hi v t).top)/\(hi v t).sz<=t.sz/\(t.top=v->t.isL=Y6->(hi v t).sz<t.sz)/\
  ∀c,c v=Y8->(hi v t).ev c=t.ev c:=by
 cases t with
 |Y0 b=>exact ⟨trivial,λh=>h,W8 _,λ_ h=>(by cases h),λ_ _=>rfl⟩
 |Y1 w l r=>
  obtain ⟨h0,h1,h2,h3,h4,h5⟩:=h;simp only [hi];split
  ·rename_i e;subst e;refine ⟨h5,λ_=>h2,by simp only [sz];omega,λ_ _=>by simp only [sz];omega,λc hc=> ?_⟩;simp [ev,hc]
  ·rename_i e;refine ⟨⟨h0,h1,h2,h3,h4,h5⟩,λ_=> ?_,W8 _,λhe=> ?_,λ_ _=>rfl⟩
   ·simp only [top] at hv ⊢;omega
   ·simp only [top] at he;omega
abbrev Op3:=Bool->Bool->Bool->Bool
def aX (a b d:Tr):Nat:=min (min a.top b.top) d.top
theorem Uw (o:Op3):∀(n:Nat) (a b d:Tr),a.sz+b.sz+d.sz<=n->a.ok->b.ok->d.ok->
  ∃t:Tr,t.ok/\aX a b d<=t.top/\∀c,t.ev c=o (a.ev c) (b.ev c) (d.ev c):=by
 intro n;induction n with
 |zero=>intro a b d hn;have:=kU a;omega
 |succ n ih=>
  intro a b d hn ha hb hd;by_cases hv:aX a b d<64
  ·have v1:aX a b d<=a.top:=by unfold aX;omega
   have v2:aX a b d<=b.top:=by unfold aX;omega
   have v3:aX a b d<=d.top:=by unfold aX;omega
   have hcase:aX a b d=a.top\/aX a b d=b.top\/aX a b d=d.top:=by unfold aX;omega
   revert hcase;revert v1 v2 v3 hv;generalize aX a b d=v;intro hv v1 v2 v3 hcase;have nl:∀{t:Tr},v=t.top->t.isL=Y6:=λ{t} e=>by
    cases t with
    |Y0 b=>simp only [top] at e;omega
    |Y1 _ _ _=>rfl
   obtain ⟨al1,al2,al3,al4,al5⟩:=cy ha v1;obtain ⟨bl1,bl2,bl3,bl4,bl5⟩:=cy hb v2;obtain ⟨dl1,dl2,dl3,dl4,dl5⟩:=cy hd v3;obtain ⟨ah1,ah2,ah3,ah4,ah5⟩:=cz ha v1;obtain ⟨bh1,bh2,bh3,bh4,bh5⟩:=cz hb v2;obtain ⟨dh1,dh2,dh3,dh4,dh5⟩:=cz hd v3;have hsl:(lo v a).sz+(lo v b).sz+(lo v d).sz<=n:=by
    rcases hcase with e|e|e
    ·have:=al4 e.symm (nl e);omega
    ·have:=bl4 e.symm (nl e);omega
    ·have:=dl4 e.symm (nl e);omega
   have hsh:(hi v a).sz+(hi v b).sz+(hi v d).sz<=n:=by
    rcases hcase with e|e|e
    ·have:=ah4 e.symm (nl e);omega
    ·have:=bh4 e.symm (nl e);omega
    ·have:=dh4 e.symm (nl e);omega
   obtain ⟨tl,l1,l2,l3⟩:=ih _ _ _ hsl al1 bl1 dl1;obtain ⟨th,h1,h2,h3⟩:=ih _ _ _ hsh ah1 bh1 dh1;have l2':v<tl.top:=by have:=al2 hv;have:=bl2 hv;have:=dl2 hv;unfold aX at l2;omega
   have h2':v<th.top:=by have:=ah2 hv;have:=bh2 hv;have:=dh2 hv;unfold aX at h2;omega
   refine ⟨mk v tl th,Db hv l2' h2' l1 h1,Pf l2',λc=> ?_⟩;rw [NN];split
   ·rename_i hc;rw [h3,ah5 c hc,bh5 c hc,dh5 c hc]
   ·rename_i hc;have hc:c v=Y6:=by simpa using hc
    rw [l3,al5 c hc,bl5 c hc,dl5 c hc]
  ·have isl:∀{t:Tr},t.ok->64<=t.top->∃b,t=Y0 b:=λ{t} ht h64=>by
    cases t with
    |Y0 b=>exact ⟨b,rfl⟩
    |Y1 _ _ _=>have:=ht.1;simp only [top] at h64;omega
   unfold aX at hv;obtain ⟨x,rfl⟩:=isl ha (by omega);obtain ⟨y,rfl⟩:=isl hb (by omega);obtain ⟨z,rfl⟩:=isl hd (by omega);exact ⟨Y0 (o x y z),trivial,by simp [aX,top],λc=>rfl⟩
noncomputable def can (f:Cf->Bool):Tr:=open Classical in if h:∃t:Tr,t.ok/\∀c,t.ev c=f c then h.choose else Y0 Y6
theorem wP {f:Cf->Bool} {t:Tr} (h:t.ok) (he:∀c,t.ev c=f c):can f=t:=by have hx:∃t:Tr,t.ok/\∀c,t.ev c=f c:=⟨t,h,he⟩;unfold can;rw [dif_pos hx];exact eQ hx.choose_spec.1 h λc=>(hx.choose_spec.2 c).trans (he c).symm
noncomputable def ap (o:Op3) (a b d:Tr):Tr:=can λc=>o (a.ev c) (b.ev c) (d.ev c)
section
variable {o:Op3} {a b d:Tr} (ha:a.ok) (hb:b.ok) (hd:d.ok)
include ha hb hd
theorem fC:(ap o a b d).ok/\aX a b d<=(ap o a b d).top/\∀c,(ap o a b d).ev c=o (a.ev c) (b.ev c) (d.ev c):=by obtain ⟨t,h1,h2,h3⟩:=Uw o _ a b d (W8 _) ha hb hd;have:ap o a b d=t:=wP h1 h3;rw [this];exact ⟨h1,h2,h3⟩
theorem HO:(ap o a b d).ok:=(fC ha hb hd).1
theorem wQ (hv:aX a b d<64):ap o a b d=mk (aX a b d) (ap o (lo (aX a b d) a) (lo (aX a b d) b) (lo (aX a b d) d)) (ap o (hi (aX a b d) a) (hi (aX a b d) b) (hi (aX a b d) d)):=by
 have v1:aX a b d<=a.top:=by unfold aX;omega
 have v2:aX a b d<=b.top:=by unfold aX;omega
 have v3:aX a b d<=d.top:=by unfold aX;omega
 revert v1 v2 v3 hv;generalize aX a b d=v;intro hv v1 v2 v3;obtain ⟨al1,al2,al3,al4,al5⟩:=cy ha v1;obtain ⟨bl1,bl2,bl3,bl4,bl5⟩:=cy hb v2;obtain ⟨dl1,dl2,dl3,dl4,dl5⟩:=cy hd v3;obtain ⟨ah1,ah2,ah3,ah4,ah5⟩:=cz ha v1;obtain ⟨bh1,bh2,bh3,bh4,bh5⟩:=cz hb v2;obtain ⟨dh1,dh2,dh3,dh4,dh5⟩:=cz hd v3;obtain ⟨l1,l2,l3⟩:=fC (o:=o) al1 bl1 dl1;obtain ⟨h1,h2,h3⟩:=fC (o:=o) ah1 bh1 dh1;have l2':v<(ap o (lo v a) (lo v b) (lo v d)).top:=by have:=al2 hv;have:=bl2 hv;have:=dl2 hv;unfold aX at l2;omega
 have h2':v<(ap o (hi v a) (hi v b) (hi v d)).top:=by have:=ah2 hv;have:=bh2 hv;have:=dh2 hv;unfold aX at h2;omega
 refine wP (Db hv l2' h2' l1 h1) λc=> ?_;rw [NN];split
 ·rename_i hc;rw [h3,ah5 c hc,bh5 c hc,dh5 c hc]
 ·rename_i hc;have hc:c v=Y6:=by simpa using hc
  rw [l3,al5 c hc,bl5 c hc,dl5 c hc]
end
theorem mK (o:Op3) (x y z:Bool):ap o (Y0 x) (Y0 y) (Y0 z)=Y0 (o x y z):=wP trivial λ_=>rfl
theorem gE {t:Tr} (ht:t.ok) (h64:64<=t.top):∃b,t=Y0 b:=by
 cases t with
 |Y0 b=>exact ⟨b,rfl⟩
 |Y1 _ _ _=>have:=ht.1;simp only [top] at h64;omega
end Tr
open Tr
structure Br where
 v:Int
 l:Int
 h:Int
deriving DecidableEq
def inn (S:List Tr) (t:Tr):Prop:=t.isL=Y8\/t∈S
def num (S:List Tr):Tr->Nat
 |Y0 b=>if b then 1 else 0
 |Y1 v l h=>S.idxOf (Y1 v l h)+2
def br (S:List Tr):Tr->Br
 |Y0 _=>⟨0,0,0⟩
 |Y1 v l h=>⟨(v:Int),(num S l:Int),(num S h:Int)⟩
def brs (S:List Tr):List Br:=S.map (br S)
inductive Cl:List Tr->Prop
 |nil:Cl []
 |snoc {S:List Tr} {v:Nat} {l h:Tr}:Cl S->inn S l->inn S h->(Y1 v l h).ok->Y1 v l h ∉ S->Cl (S++[Y1 v l h])
theorem cd {S X:List Tr} {t:Tr} (h:inn S t):inn (S++X) t:=h.imp id λh=>Yq X h
theorem gl (S:List Tr) (b:Bool):inn S (Y0 b):=.inl rfl
theorem cP {S:List Tr} {t:Tr} (h:inn S t) (hn:t.isL=Y6):t∈S:=h.resolve_left (by rw [hn];exact Ym)
theorem bR {S X:List Tr} {t:Tr} (h:inn S t):num (S++X) t=num S t:=by
 cases t with
 |Y0 b=>rfl
 |Y1 v l r=>have hm:=cP h rfl;simp only [num,List.idxOf_append,hm,if_true]
namespace Cl
theorem mem {S:List Tr} (h:Cl S):∀t∈S,t.ok/\∃v l r,t=Y1 v l r/\inn S l/\inn S r:=by
 induction h with
 |nil=>intro t ht;cases ht
 | @snoc S v l r hS hl hr hk hn ih=>
  intro t ht;rcases W9.1 ht with ht|ht
  ·obtain ⟨h1,v',l',r',h2,h3,h4⟩:=ih t ht;exact ⟨h1,v',l',r',h2,cd h3,cd h4⟩
  ·obtain rfl:=W5.1 ht;exact ⟨hk,v,l,r,rfl,cd hl,cd hr⟩
theorem nodup {S:List Tr} (h:Cl S):S.Nodup:=by
 induction h with
 |nil=>exact List.nodup_nil
 | @snoc S v l r hS hl hr hk hn ih=>rw [Xv];refine ⟨ih,by simp,?_⟩;intro a ha b hb;rw [W5] at hb;subst hb;rintro rfl;exact hn ha
theorem inn_ok {S:List Tr} (h:Cl S) {t:Tr} (ht:inn S t):t.ok:=by
 cases t with
 |Y0 b=>trivial
 |Y1 v l r=>exact (h.mem _ (cP ht rfl)).1
theorem inn_kids {S:List Tr} (h:Cl S) {v:Nat} {l r:Tr} (ht:inn S (Y1 v l r)):inn S l/\inn S r:=by obtain ⟨_,v',l',r',e,h3,h4⟩:=h.mem _ (cP ht rfl);cases e;exact ⟨h3,h4⟩
theorem inn_lo {S:List Tr} (h:Cl S) {t:Tr} (ht:inn S t) (v:Nat):inn S (lo v t):=by
 cases t with
 |Y0 b=>exact ht
 |Y1 w l r=>
  simp only [lo];split
  ·exact (h.inn_kids ht).1
  ·exact ht
theorem inn_hi {S:List Tr} (h:Cl S) {t:Tr} (ht:inn S t) (v:Nat):inn S (hi v t):=by
 cases t with
 |Y0 b=>exact ht
 |Y1 w l r=>
  simp only [hi];split
  ·exact (h.inn_kids ht).2
  ·exact ht
end Cl
theorem fc {S:List Tr} {t:Tr} (h:inn S t):num S t<=S.length+1:=by
 cases t with
 |Y0 b=>simp only [num];split<;>omega
 |Y1 v l r=>have:=List.idxOf_lt_length_of_mem (cP h rfl);simp only [num];omega
theorem eB {S:List Tr} {t:Tr} (h:t.isL=Y6):2<=num S t:=by
 cases t with
 |Y0 b=>cases h
 |Y1 v l r=>simp only [num];omega
theorem qp {S:List Tr} {t:Tr} (h:num S t<2):t.isL=Y8:=by
 cases t with
 |Y0 b=>rfl
 |Y1 v l r=>simp only [num] at h;omega
theorem dF (S:List Tr) (b:Bool):num S (Y0 b)<=1:=by simp only [num];split<;>omega
theorem fX {S:List Tr} {t:Tr} (h:t∈S) (hl:t.isL=Y6):S[num S t - 2]? =Y3 t:=by
 cases t with
 |Y0 b=>cases hl
 |Y1 v l r=>have h1:=List.idxOf_lt_length_of_mem h;simp only [num,Nat.add_sub_cancel];rw [N5 h1,List.getElem_idxOf]
theorem cQ {S:List Tr} {t u:Tr} (ht:inn S t) (hu:inn S u) (h:num S t=num S u):t=u:=by
 cases ht':t.isL with
 |true=>
  cases hu':u.isL with
  |true=>
   cases t with
   |Y1 _ _ _=>cases ht'
   |Y0 a=>
    cases u with
    |Y1 _ _ _=>cases hu'
    |Y0 b=>simp only [num] at h;cases a<;>cases b<;>simp at h ⊢
  |false=>
   have h1:=eB (S:=S) hu';cases t with
   |Y1 _ _ _=>cases ht'
   |Y0 a=>have h2:num S (Y0 a)<=1:=dF S a;omega
 |false=>
  cases hu':u.isL with
  |true=>
   have h1:=eB (S:=S) ht';cases u with
   |Y1 _ _ _=>cases hu'
   |Y0 a=>have h2:num S (Y0 a)<=1:=dF S a;omega
  |false=>have h1:=fX (cP ht ht') ht';have h2:=fX (cP hu hu') hu';rw [h,h2] at h1;exact (Xy h1).symm
theorem eC {S:List Tr} (hS:Cl S) {k:Nat} {t:Tr} (h:S[k]? =Y3 t):num S t=k+2:=by
 have hk:k<S.length:=(N6.1 h).1;have hm:t∈S:=W7 h;obtain ⟨_,v,l,r,rfl,_⟩:=hS.mem t hm;have h1:=List.idxOf_lt_length_of_mem hm;have h2:S[S.idxOf (Y1 v l r)]=S[k]:=by rw [List.getElem_idxOf];exact (N6.1 h).2.symm
 have:=(List.getElem_inj hS.nodup).1 h2;simp only [num];omega
def tr (S:List Tr) (n:Nat):Tr:=
 if n=0 then Y0 Y6 else if n=1 then Y0 Y8 else S.getD (n - 2) (Y0 Y6)
theorem gP {S:List Tr} {n:Nat} (h:n<=S.length+1):inn S (tr S n):=by
 unfold tr;split
 ·exact gl _ _
 ·split
  ·exact gl _ _
  ·refine .inr ?_;rw [Xx,N5 (by omega)];exact X2 _
theorem gm {S:List Tr} (hS:Cl S) {n:Nat} (h:n<=S.length+1):num S (tr S n)=n:=by
 unfold tr;split
 ·rename_i e;subst e;rfl
 ·split
  ·rename_i e;subst e;rfl
  ·have hk:n - 2<S.length:=by omega
   have:=eC hS (k:=n - 2) (t:=S[n - 2]) (N5 hk);rw [Xx,N5 hk];simp only [Option.getD_some];omega
theorem nJ {S:List Tr} (hS:Cl S) {t:Tr} (h:inn S t):tr S (num S t)=t:=
 cQ (gP (fc h)) h (gm hS (fc h))
theorem Eo {S X:List Tr} (hS:Cl S) {t:Tr} (h:t∈S):br (S++X) t=br S t:=by obtain ⟨_,v,l,r,rfl,hl,hr⟩:=hS.mem t h;simp only [br,bR hl,bR hr]
theorem sI {S X:List Tr} (hS:Cl S):brs (S++X)=brs S++X.map (br (S++X)):=by unfold brs;rw [Xt];congr 1;exact Yx λt ht=>Eo hS ht
theorem eR {S:List Tr} (hS:Cl S) {v:Nat} {l r:Tr} (hl:inn S l) (hr:inn S r):brs (S++[Y1 v l r])=brs S++[⟨(v:Int),(num S l:Int),(num S r:Int)⟩]:=by rw [sI hS];simp only [Xw,List.map_nil,br,bR hl,bR hr]
theorem aN (S:List Tr):(brs S).length=S.length:=by simp [brs]
theorem qr {S:List Tr} {k:Nat} {t:Tr} (h:S[k]? =Y3 t):(brs S)[k]? =Y3 (br S t):=by simp [brs,h]
theorem HP {S:List Tr} (hS:Cl S) {t u:Tr} (ht:t∈S) (hu:u∈S) (h:br S t=br S u):t=u:=by obtain ⟨_,v,l,r,rfl,hl,hr⟩:=hS.mem t ht;obtain ⟨_,v',l',r',rfl,hl',hr'⟩:=hS.mem u hu;simp only [br,Br.mk.injEq] at h;obtain ⟨h1,h2,h3⟩:=h;rw [cQ hl hl' (by omega),cQ hr hr' (by omega),show v=v' by omega]
theorem qt {S T:List Tr} (hS:Cl S):Cl T->brs S=brs T->S=T:=by
 intro hT;induction hS generalizing T with
 |nil=>
  intro h;cases T with
  |nil=>rfl
  |cons a b=>have:=congrArg List.length h;simp [brs] at this
 | @snoc S v l r hS hl hr hk hn ih=>
  intro h;cases hT with
  |nil=>have:=congrArg List.length h;simp [brs] at this
  | @snoc T v' l' r' hT hl' hr' hk' hn'=>rw [eR hS hl hr,eR hT hl' hr'] at h;obtain ⟨h1,h2⟩:=List.append_inj' h rfl;obtain rfl:=ih hT h1;simp only [List.cons.injEq,Br.mk.injEq,and_true] at h2;obtain ⟨h3,h4,h5⟩:=h2;rw [cQ hl hl' (by omega),cQ hr hr' (by omega),show v=v' by omega]
def vis:Tr->List Tr->List Tr
 |Y0 _,S=>S
 |Y1 v l h,S=>if Y1 v l h∈S then S else vis h (vis l S)++[Y1 v l h]
theorem gF {S:List Tr} {t:Tr} (h:inn S t):vis t S=S:=by
 cases t with
 |Y0 b=>rfl
 |Y1 v l r=>unfold vis;rw [Χ (cP h rfl)]
theorem bA:∀(t:Tr) (S:List Tr),t.ok->Cl S->Cl (vis t S)/\inn (vis t S) t/\(∃X,vis t S=S++X/\∀x∈X,x.sz<=t.sz)
 |Y0 b,S,_,hS=>⟨hS,gl _ _,[],by simp [vis],λx h=>by cases h⟩
 |Y1 v l r,S,hk,hS=>by
  unfold vis;split
  ·rename_i hm;exact ⟨hS,.inr hm,[],by simp,λx h=>by cases h⟩
  ·rename_i hm;obtain ⟨h1,h2,X,h3,h4⟩:=bA l S hk.2.2.2.2.1 hS;obtain ⟨g1,g2,Y,g3,g4⟩:=bA r (vis l S) hk.2.2.2.2.2 h1;have hn:Y1 v l r ∉ vis r (vis l S):=by
    rw [g3,h3];intro hc;rcases W9.1 hc with hc|hc
    ·rcases W9.1 hc with hc|hc
     ·exact hm hc
     ·have:=h4 _ hc;simp only [sz] at this;omega
    ·have:=g4 _ hc;simp only [sz] at this;omega
   refine ⟨.snoc g1 (by rw [g3];exact cd h2) g2 hk hn,.inr (by simp),X++Y++[Y1 v l r],by rw [g3,h3];simp,λx hx=> ?_⟩;simp only [W9,W5,or_assoc] at hx;rcases hx with hx|hx|hx
   ·have:=h4 x hx;simp only [sz];omega
   ·have:=g4 x hx;simp only [sz];omega
   ·rw [hx];exact W8 _
def bi (t:Tr):List Tr:=vis t []
theorem bF {t:Tr} (h:t.ok):Cl (bi t):=(bA t [] h .nil).1
theorem bW {t:Tr} (h:t.ok):inn (bi t) t:=(bA t [] h .nil).2.1
abbrev Dia:=List Br×Int
def dia (t:Tr):Dia:=(brs (bi t),(num (bi t) t:Int))
theorem mL {t u:Tr} (ht:t.ok) (hu:u.ok) (h:dia t=dia u):t=u:=by unfold dia at h;simp only [YU] at h;obtain ⟨h1,h2⟩:=h;have h3:=qt (bF ht) (bF hu) h1;rw [<- h3] at h2;refine cQ (bW ht) ?_ (by omega);rw [h3];exact bW hu
def cnt:Tr->Nat
 |Y0 _=>0
 |Y1 _ l h=>cnt l+cnt h+1
theorem kW:∀(t:Tr) (S:List Tr),(vis t S).length<=S.length+cnt t
 |Y0 _,_=>W8 _
 |Y1 v l r,S=>by
  unfold vis;split
  ·omega
  ·have h1:=kW l S;have h2:=kW r (vis l S);simp only [Xa,Xk,cnt];omega
theorem oI (t:Tr):(bi t).length<=cnt t:=by have:=kW t [];simpa [bi] using this
open Go.Proofs.Tryz
theorem sz3:tsz prog 3=Y3 (1,8):=by kernel_rfl
theorem sz9:tsz prog 9=Y3 (1,16):=by kernel_rfl
theorem Pg:tsz prog 31=Y3 (2,32):=by kernel_rfl
theorem WC:tsz prog 39=Y3 (1,24):=by kernel_rfl
theorem Ux:tsz prog 55=Y3 (13,160):=by kernel_rfl
theorem Uy:tsz prog 63=Y3 (2,16):=by kernel_rfl
theorem WD:tsz prog 69=Y3 (4,64):=by kernel_rfl
theorem yt:tsz prog 124=Y3 (3,24):=by kernel_rfl
theorem Uz:tsz prog 146=Y3 (7,112):=by kernel_rfl
theorem UA:tsz prog 156=Y3 (9,104):=by kernel_rfl
theorem NO:tsz prog 215=Y3 (3,24):=by kernel_rfl
theorem zr3:bO prog 3=Y3 (Value.int .i64 0):=by kernel_rfl
theorem zr9:bO prog 9=Y3 (Value.string ⟨#[]⟩):=by kernel_rfl
theorem HQ:bO prog 31=Y3 (Value.agg (#[Value.slice Y5 0 0,Value.int .i64 0])):=by kernel_rfl
theorem WE:bO prog 39=Y3 (Value.slice Y5 0 0):=by kernel_rfl
theorem UB:bO prog 55=Y3 (Value.agg (#[Value.string ⟨#[]⟩,Value.int .i64 0,Value.slice Y5 0 0,Value.slice Y5 0 0,Value.int .i64 0,Value.bool Y6,Value.int .i64 0,Value.slice Y5 0 0,Value.bool Y6,Value.int .i64 0,Value.int .i64 0,Value.int .i64 0,Value.int .i64 0])):=by kernel_rfl
theorem UC:bO prog 63=Y3 (Value.agg (#[Value.bool Y6,Value.int .i64 0])):=by kernel_rfl
theorem WF:bO prog 69=Y3 (Value.agg (#[Value.slice Y5 0 0,Value.int .i64 0,Value.slice Y5 0 0,Value.int .i64 0])):=by kernel_rfl
theorem yu:bO prog 124=Y3 (Value.agg (#[Value.int .i64 0,Value.int .i64 0,Value.int .i64 0])):=by kernel_rfl
theorem UD:bO prog 146=Y3 (Value.agg (#[Value.string ⟨#[]⟩,Value.int .i64 0,Value.string ⟨#[]⟩,Value.slice Y5 0 0,Value.string ⟨#[]⟩,Value.slice Y5 0 0,Value.int .i64 0])):=by kernel_rfl
theorem UE:bO prog 156=Y3 (Value.agg (#[Value.int .i64 0,Value.int .i64 0,Value.int .i64 0,Value.int .i64 0,Value.int .i64 0,Value.int .i64 0,Value.slice Y5 0 0,Value.slice Y5 0 0,Value.int .i64 0])):=by kernel_rfl
theorem NP:bO prog 215=Y3 (Value.agg (#[Value.int .i64 0,Value.int .i64 0,Value.int .i64 0])):=by kernel_rfl
section
variable {P:Program} {n:Nat} {Q:Exit->En->PH->Prop} {E:En} {F:PH} {ops:Array Oper} {l:List Oper} {d:Tmp} {op:Op} {ty:TypeId} {pos:String} {aft:Array Edge} {gd:Option (Nat×Bool)}
theorem WG {fn:Func} {r r' r'' r3:ResultVar} {v v' v'' v3:Value} (h:fn.results= #[r,r',r'',r3]) (hv:kT P E F r v) (hv':kT P E F r' v') (hv'':kT P E F r'' v'') (hv3:kT P E F r3 v3):sg P fn E F (.tuple #[v,v',v'',v3]):=λe w tmps st ht=>by have k:=gO hv st ht;have k':=gO hv' st ht;have k'':=gO hv'' st ht;have k3:=gO hv3 st ht;clear ht hv hv' hv'' hv3;rcases k with ⟨t,rfl,h1⟩|⟨x,t,a,rfl,h1,h2⟩<;>rcases k' with ⟨t',rfl,h3⟩|⟨x',t',a',rfl,h3,h4⟩<;>rcases k'' with ⟨t'',rfl,h5⟩|⟨x'',t'',a'',rfl,h5,h6⟩<;>rcases k3 with ⟨t3,rfl,h7⟩|⟨x3,t3,a3,rfl,h7,h8⟩<;>simp [results,asAddr, *]
end
section
variable {P:Program} {F:PH} {E:En} {o:Oper} {x y:Operand} {t t':TypeId}
theorem Ph {c d:ByteArray} (ho:o.op=.binOp .add t x y t') (hx:ev E x=.string c) (hy:ev E y=.string d) (h:c.size+d.size<=9223372036854775807):RD P E F o (.string (c++d)):=by
 have e:IntKind.i64.max=9223372036854775807:=by decide
 have hn:¬(((c.size+d.size:Nat):Int)>IntKind.i64.max):=by rw [e];omega
 simp only [RD,execOp,ho,hx,hy,aj];refine ⟨.string (c++d),⟨(),cn rfl,?_⟩,rfl⟩;show rdo P (Op.stringOp .add c d) F _;unfold Op.stringOp;simp only [Υ hn];rfl
theorem Pj {c d:ByteArray} (ho:o.op=.binOp .lss t x y t') (hx:ev E x=.string c) (hy:ev E y=.string d):RD P E F o (.bool (Op.bytesLess c.toList d.toList)):=by simp only [RD,execOp,ho,hx,hy,aj];exact ⟨_,⟨(),cn rfl,rfl⟩,rfl⟩
theorem Pk {c d:ByteArray} (ho:o.op=.binOp .geq t x y t') (hx:ev E x=.string c) (hy:ev E y=.string d):RD P E F o (.bool (!Op.bytesLess c.toList d.toList)):=by simp only [RD,execOp,ho,hx,hy,aj];exact ⟨_,⟨(),cn rfl,rfl⟩,rfl⟩
theorem HR {e:TypeId} {v:Value} {s:ByteArray} (ho:o.op=.convert t t' x) (hx:ev E x=v) (h1:P.underlying t=Y3 (.slice e)) (h2:P.underlying t'=Y3 .string) (h3:P.underlying e=Y3 (.int .u8))
  (hv:∃b l c,v=.slice b l c) (h:rdo P (Conv.bytesToString v) F (.string s)):RD P E F o (.string s):=by
 obtain ⟨b,l,c,rfl⟩:=hv;simp only [RD,execOp,ho,hx,aj,convert];refine ⟨_,⟨_,(av h1 _).2 rfl,_,(av h2 _).2 rfl,?_⟩,rfl⟩;cases b<;>(simp only [aj];exact ⟨_,(av h3 _).2 rfl,h⟩)
variable {K:En->PH->Prop} {d:Tmp} {ty:TypeId} {pos:String} {aft:Array Edge} {gd:Option (Nat×Bool)}
theorem HS {m:Option Nat} {r:Value} (ho:o.op=.call {callee:=.builtin .len,args:= #[x],argTypes:= #[t]}) (hx:ev E x=.map m) (h:rdo P (Builtin.len_ #[t] o.type #[.map m]) F r):RD P E F o r:=by simp [RD,execOp,ho,resolve,invoke,builtin,hx];exact h
theorem Kz {v r:Value} (ho:o.op=.entry x) (hx:ev E x=v) (h:rdo P (Instr.entry v) F r):RD P E F o r:=by simp only [RD,execOp,ho,hx,aj];exact ⟨_,h,rfl⟩
end
abbrev VR:=Value->PH->Prop
abbrev sto (F:PH) (a:Addr) (v:Value) (K:PH->Prop):Prop:=
 ∃c e,F a.block=Y3 (Y4 c e (0,0))/\a.spot=Y5/\a.off<c.size/\atF (F.set a.block (Y4 (c.setIfInBounds a.off v) e)) K
abbrev au (F:PH) (a:Addr) (n:Nat) (v:Array Value) (K:PH->Prop):Prop:=
 v.size=n/\(∀x∈v.toList,ak x)/\∃c e,F a.block=Y3 (Y4 c e (0,0))/\a.spot=Y5/\a.off+n<=c.size/\atF (F.set a.block (Y4 (wr c a.off v.toList) e)) K
namespace Rx
inductive Kd|int (k:IntKind)|bool|ptr|sl|str|map|agg|any
def Kd.T:Kd->Type
 | .int _=>Int| .bool=>Bool| .ptr=>Option Addr| .sl=>Sl| .str=>ByteArray| .map=>Option Nat| .agg=>Array Value| .any=>Value
def Kd.v:(k:Kd)->k.T->Value
 | .int k,x=> .int k x| .bool,b=> .bool b| .ptr,p=> .pointer p| .sl,s=>Sl.v s| .str,s=> .string s| .map,m=> .map m| .agg,c=> .agg c| .any,v=>v
def kdD:TypeDesc->Kd
 | .int k=> .int k| .bool=> .bool| .string=> .str| .pointer _=> .ptr| .slice _=> .sl| .map _ _=> .map| .struct _=> .agg| .array _ _=> .agg|_=> .any
def kd (P:Program) (t:TypeId):Kd:=match P.underlying t with|some d=>kdD d|none=> .any
inductive SV|c (v:Value)|any (v:Value)|ad (a:Addr)|lit (b:Bool)|vt (w:Array Value)|und|ref (i:Nat)|unk
inductive SB|bool (b:Bool)|prp (p:Prop) (d:Decidable p)|lit (b:Bool)|ptr (p:Option Addr)|ad (a:Addr)
def SB.v:SB->Value
 | .bool b=> .bool b| .prp p d=> .bool (@decide p d)| .lit b=> .bool b| .ptr p=> .pointer p| .ad a=> .pointer (Y3 a)
inductive VW|c (v:Value)|any (v:Value)|ad (a:Addr)|lit (b:Bool)|vt (w:Array Value)|und|bool (i:Nat) (b:Bool)|prp (i:Nat) (p:Prop) (d:Decidable p)|ptr (i:Nat) (p:Option Addr)|unk
def SB.vw (i:Nat):SB->VW
 | .bool b=> .bool i b| .prp p d=> .prp i p d| .lit b=> .lit b| .ptr p=> .ptr i p| .ad a=> .ad a
def SV.vw (T:Nat->Option SB):SV->VW
 | .c v=> .c v| .any v=> .any v| .ad a=> .ad a| .lit b=> .lit b| .vt w=> .vt w| .und=> .und
 | .ref i=>(match T i with|some s=>s.vw i|none=> .unk)
 | .unk=> .unk
def VW.val:VW->Option Value
 | .c v=>Y3 v| .any v=>Y3 v| .ad a=>Y3 (.pointer (Y3 a))| .lit b=>Y3 (.bool b)| .vt w=>Y3 (.tuple w)| .und=>Y3 undef
 | .bool _ b=>Y3 (.bool b)| .prp _ p d=>Y3 (.bool (@decide p d))| .ptr _ p=>Y3 (.pointer p)| .unk=>Y5
structure Sy where
 S:Nat->SV
 T:Nat->Option SB
 n:Nat
def up {α:Type} (f:Nat->α) (d:Nat) (x:α):Nat->α:=λt=>bif Nat.beq t d then x else f t
def UF:Value->SV
 | .bool b=> .lit b|v=> .c v
def Sy.cp (σ:Sy):Operand->SV
 | .tmp t=>σ.S t| .const v=>UF v| .global g=> .ad ⟨g,0,Y5⟩| .func f=> .c (.func (.func f) #[] #[])
def Sy.ov (σ:Sy) (x:Operand):VW:=(σ.cp x).vw σ.T
def Sy.vw (σ:Sy) (t:Nat):VW:=(σ.S t).vw σ.T
inductive NV|sv (s:SV)|nb (b:SB)
def Sy.put (σ:Sy) (d:Nat):NV->Sy
 | .sv s=>⟨up σ.S d s,σ.T,σ.n⟩
 | .nb b=>⟨up σ.S d (.ref σ.n),up σ.T σ.n (Y3 b),σ.n+1⟩
def Sy.putO (σ:Sy):Option Tmp->NV->Sy
 |some d,v=>σ.put d v
 |none,_=>σ
def Sy.rf (σ:Sy) (i:Nat) (b:SB):Sy:=⟨σ.S,up σ.T i (Y3 b),σ.n⟩
def Kd.nv:(k:Kd)->k.T->NV
 | .int k,x=> .sv (.c (.int k x))| .bool,b=> .nb (.bool b)| .ptr,p=> .nb (.ptr p)| .sl,s=> .sv (.c (Sl.v s))| .str,s=> .sv (.c (.string s))| .map,m=> .sv (.c (.map m))| .agg,c=> .sv (.c (.agg c))| .any,v=> .sv (.any v)
def ofk:Kd->Value->NV
 | .any,v=> .sv (.any v)
 | .bool,v=>(match v with| .bool b=> .nb (.bool b)|_=> .sv .unk)
 | .ptr,v=>(match v with| .pointer p=> .nb (.ptr p)|_=> .sv .unk)
 |_,v=> .sv (.c v)
def oU:List Nat->Nat->Bool
 |[],_=>Y6
 |x::l,t=>bif Nat.beq t x then Y8 else oU l t
def Sy.hav (σ:Sy) (M:List Nat):Sy:=⟨λt=>bif oU M t then .unk else σ.S t,σ.T,σ.n⟩
def sxA (σ:Sy) (x:Operand) (K:Sy->Addr->Prop):Prop:=
 match σ.ov x with
 | .ad a=>K σ a
 | .ptr i p=>∃a:Addr,p=Y3 a/\K (σ.rf i (.ad a)) a
 | .c (.pointer (Y3 a))=>K σ a
 |_=>False
def wR (σ:Sy):List Operand->(List Value->Prop)->Prop
 |[],K=>K []
 |x::l,K=>match (σ.ov x).val with|some v=>wR σ l (λus=>K (v::us))|none=>False
abbrev RK:=Sy->NV->Option (PH->Prop)->Prop
def okN (b:Bool) (K:Prop):Prop:=match b with|true=>K|false=>False
def sxI (op:BinOp) (k:IntKind) (a b:Int) (lit:Bool) (K:NV->Prop):Prop:=
 match op with
 | .add=>K (.sv (.c (.int k (k.wrap (a+b)))))
 | .sub=>K (.sv (.c (.int k (k.wrap (a - b)))))
 | .mul=>K (.sv (.c (.int k (k.wrap (a*b)))))
 | .quo=>(match lit with|true=>(match decide (b≠0) with|true=>K (.sv (.c (.int k (k.wrap (Int.tdiv a b)))))|false=>False)|false=>b≠0/\K (.sv (.c (.int k (k.wrap (Int.tdiv a b))))))
 | .rem=>(match lit with|true=>(match decide (b≠0) with|true=>K (.sv (.c (.int k (Int.tmod a b))))|false=>False)|false=>b≠0/\K (.sv (.c (.int k (Int.tmod a b)))))
 | .and=>K (.sv (.c (.int k (k.wrap ((BitVec.ofInt k.bits a &&& BitVec.ofInt k.bits b).toNat)))))
 | .or=>K (.sv (.c (.int k (k.wrap ((BitVec.ofInt k.bits a ||| BitVec.ofInt k.bits b).toNat)))))
 | .xor=>K (.sv (.c (.int k (k.wrap ((BitVec.ofInt k.bits a ^^^ BitVec.ofInt k.bits b).toNat)))))
 | .andNot=>K (.sv (.c (.int k (k.wrap ((BitVec.ofInt k.bits a &&& ~~~ BitVec.ofInt k.bits b).toNat)))))
 | .lss=>K (.nb (.prp (a<b) inferInstance))
 | .leq=>K (.nb (.prp (a<=b) inferInstance))
 | .gtr=>K (.nb (.prp (b<a) inferInstance))
 | .geq=>K (.nb (.prp (b<=a) inferInstance))
 | .eql=>K (.nb (.prp (a=b) inferInstance))
 | .neq=>K (.nb (.prp (a≠b) inferInstance))
 |_=>False
def sxH (op:BinOp) (k:IntKind) (a b:Int) (lit:Bool) (K:NV->Prop):Prop:=
 match op with
 | .shl=>(match lit with|true=>(match decide (0<=b) with|true=>K (.sv (.c (.int k (k.wrap (a*2 ^ (min b.toNat k.bits))))))|false=>False)|false=>0<=b/\K (.sv (.c (.int k (k.wrap (a*2 ^ (min b.toNat k.bits)))))))
 | .shr=>(match lit with|true=>(match decide (0<=b) with|true=>K (.sv (.c (.int k (a.fdiv (2 ^ (min b.toNat k.bits))))))|false=>False)|false=>0<=b/\K (.sv (.c (.int k (a.fdiv (2 ^ (min b.toNat k.bits)))))))
 |_=>False
def KA:BinOp->Bool
 | .shl=>Y8| .shr=>Y8|_=>Y6
def wS:Operand->Bool
 | .const _=>Y8|_=>Y6
def VW.tv:VW->Option Bool
 | .lit b=>Y3 b| .bool _ b=>Y3 b| .prp _ p d=>Y3 (@decide p d)|_=>Y5
def HT (P:Program) (σ:Sy) (op:BinOp) (t:TypeId) (x y:Operand) (K:NV->Prop):Prop:=
 match σ.ov x,σ.ov y with
 | .c (.int k a),.c (.int k' b)=>(match KA op with|true=>sxH op k a b (wS y) K|false=>(match decide (k=k') with|true=>sxI op k a b (wS y) K|false=>False))
 | .c (.string c),.c (.string d)=>(match op with
  | .add=>c.size+d.size<=9223372036854775807/\K (.sv (.c (.string (c++d))))
  | .lss=>K (.nb (.bool (Op.bytesLess c.toList d.toList)))
  | .geq=>K (.nb (.bool (!Op.bytesLess c.toList d.toList)))
  | .eql=>K (.nb (.bool (c.toList==d.toList)))
  | .neq=>K (.nb (.bool (!(c.toList==d.toList))))
  |_=>False)
 | .ad _,.c (.pointer Y5)=>(match P.underlying t,op with|some (.pointer _),.eql=>K (.sv (.lit Y6))|some (.pointer _),.neq=>K (.sv (.lit Y8))|_,_=>False)
 | .ptr _ p,.c (.pointer Y5)=>(match P.underlying t,op with|some (.pointer _),.eql=>K (.nb (.bool p.isNone))|some (.pointer _),.neq=>K (.nb (.bool (!p.isNone)))|_,_=>False)
 | .c (.slice b _ _),.c (.slice Y5 0 0)=>(match P.underlying t,op with|some (.slice _),.eql=>K (.nb (.bool b.isNone))|some (.slice _),.neq=>K (.nb (.bool (!b.isNone)))|_,_=>False)
 | .c (.agg c),.c (.agg d)=>(match P.eqGuardType P.depth t,op with
  |false,.eql=>∃v:Bool,(∀F,rdo P (Op.equal t (.agg c) (.agg d)) F v)/\K (.nb (.bool v))
  |false,.neq=>∃v:Bool,(∀F,rdo P (Op.equal t (.agg c) (.agg d)) F v)/\K (.nb (.bool (!v)))
  |_,_=>False)
 |u,w=>(match P.underlying t,u.tv,w.tv with
  |some .bool,Y3 a,Y3 b=>(match op with| .eql=>K (.nb (.bool (a==b)))| .neq=>K (.nb (.bool (!(a==b))))|_=>False)
  |_,_,_=>False)
def Pm (P:Program) (t:TypeId) (a:Addr) (F:PH) (K:NV->(PH->Prop)->Prop):Prop:=
 match P.underlying t with
 |none=>False
 |some d=>match kdD d with
  | .agg=>(match tsz P t with|some (n,_)=>∃v:Array Value,v.size=n/\F.row a v/\K (.sv (.c (.agg v))) (λF=>F.row a v)|none=>False)
  |k=>∃x:k.T,F.cell a=Y3 (k.v x)/\K (k.nv x) (λF=>F.cell a=Y3 (k.v x))
def wT (σ:Sy) (y:Option Operand) (dflt:Nat) (K:Nat->Prop):Prop:=
 match y with
 |none=>K dflt
 |some y=>match σ.ov y with
  | .c (.int _ i)=>(match wS y with|true=>(match decide (0<=i) with|true=>K i.toNat|false=>False)|false=>0<=i/\K i.toNat)
  |_=>False
def bld (σ:Sy) (place:Nat->Option (Nat×Nat)) (n:Nat):List (Nat×Operand)->Array Value->(Array Value->Prop)->Prop
 |[],cs,K=>K cs
 | (i,x)::l,cs,K=>match place i with
  |none=>False
  |some (off,s)=>match σ.ov x with
   | .c (.agg c)=>(match Nat.ble (off+s) n with|true=>c.size=s/\bld σ place n l (wr cs off c.toList) K|false=>False)
   | .c v=>(match Nat.beq s 1,Nat.blt off n with|true,Y8=>bld σ place n l (cs.setIfInBounds off v) K|_,_=>False)
   | .any _=>False
   |w=>(match Nat.beq s 1,Nat.blt off n,w.val with|true,Y8,Y3 v=>bld σ place n l (cs.setIfInBounds off v) K|_,_,_=>False)
def UG:Op->Bool
 | .move _| .assign _| .pick _ _ _| .nilCheck _| .extract _ _| .fieldAddr _ _ _| .load _ _| .indexAddr _ _ _| .index _ _ _| .field _ _ _| .binOp _ _ _ _ _| .unOp _ _ _| .convert _ _ _| .slice _ _ _ _ _
 | .build _ _| .lookup _ _ _ _| .makeFunc _ _ _| .entry _=>Y8
 | .call ⟨.builtin .len,_,_⟩| .call ⟨.builtin .cap,_,_⟩| .call ⟨.builtin .max,_,_⟩| .call ⟨.builtin .min,_,_⟩=>Y8
 |_=>Y6
def sxR (P:Program) (σ:Sy) (o:Oper) (F:PH) (K:RK):Prop:=
 match o.op with
 | .move x=>K σ (.sv (σ.cp x)) Y5
 | .assign x=>K σ (.sv (σ.cp x)) Y5
 | .pick c a b=>(match σ.ov c with| .lit Y8=>K σ (.sv (σ.cp a)) Y5| .lit Y6=>K σ (.sv (σ.cp b)) Y5|_=>False)
 | .nilCheck x=>(match σ.ov x with
  | .c (.func (.func _) _ _)=>K σ (.sv (σ.cp x)) Y5
  |_=>sxA σ x λσ a=>K σ (.sv (.ad a)) Y5)
 | .extract x i=>(match σ.ov x with
  | .c (.tuple vs)=>(match vs[i]? with|some v=>K σ (ofk (kd P o.type) v) Y5|none=>False)
  | .vt w=>∃v:(kd P o.type).T,w[i]? =Y3 ((kd P o.type).v v)/\K σ ((kd P o.type).nv v) Y5
  |_=>False)
 | .fieldAddr t x i=>(match P.underlying t with
  |some (.struct fs)=>(match fs[i]? with
   |some f=>(match tsz P f.type with|some (_+1,_)=>sxA σ x λσ a=>K σ (.sv (.ad (a.add f.offset))) Y5|_=>False)
   |none=>False)
  |_=>False)
 | .load t x=>sxA σ x λσ a=>Pm P t a F λv ck=>K σ v (Y3 ck)
 | .indexAddr t x y=>(match σ.ov y,P.underlying t with
  | .c (.int _ i),Y3 (.slice e)=>(match σ.ov x,tsz P e with
   | .c (.slice YZ len _),Y3 (s,_)=>∃a:Addr,YZ=Y3 a/\0<=i/\i<(len:Int)/\K σ (.sv (.ad (a.add (i.toNat*s)))) Y5
   |_,_=>False)
  | .c (.int _ i),Y3 (.array n e)=>(match tsz P e with
   |some (s,_)=>sxA σ x λσ a=>0<=i/\i<(n:Int)/\K σ (.sv (.ad (a.add (i.toNat*s)))) Y5
   |_=>False)
  |_,_=>False)
 | .index t x y=>(match σ.ov x,σ.ov y,P.underlying t with
  | .c (.string s),.c (.int _ i),Y3 .string=>0<=i/\i<(s.size:Int)/\∃(hx:Int.toNat i<s.size) (v:Int),v=((s[Int.toNat i]'hx).toNat:Int)/\K σ (.sv (.c (.int .u8 v))) Y5
  | .c (.agg cs),.c (.int _ i),Y3 (.array n e)=>(match P.underlying e,tsz P e with
   |some d,Y3 (s,_)=>(match kdD d with
    | .agg=>False
    |k=>0<=i/\i<(n:Int)/\∃v:k.T,cs[i.toNat*s]? =Y3 (k.v v)/\K σ (k.nv v) Y5)
   |_,_=>False)
  |_,_,_=>False)
 | .field t x i=>(match σ.ov x,P.underlying t with
  | .c (.agg cs),Y3 (.struct fs)=>(match fs[i]? with
   |some f=>(match P.underlying f.type,tsz P f.type with
    |some d,Y3 (s,_)=>(match kdD d with
     | .agg=>K σ (.sv (.c (.agg (cs.extract f.offset (f.offset+s))))) Y5
     |k=>∃v:k.T,cs[f.offset]? =Y3 (k.v v)/\K σ (k.nv v) Y5)
    |_,_=>False)
   |none=>False)
  |_,_=>False)
 | .binOp op t x y _=>HT P σ op t x y λv=>K σ v Y5
 | .unOp op _ x=>(match op,σ.ov x with
  | .not,.lit b=>K σ (.sv (.lit (!b))) Y5
  | .not,.bool _ b=>K σ (.nb (.bool (!b))) Y5
  | .not,.prp _ p d=>K σ (.nb (.prp (¬p) (@instDecidableNot p d))) Y5
  | .neg,.c (.int k a)=>K σ (.sv (.c (.int k (k.wrap (0 - a))))) Y5
  |_,_=>False)
 | .convert t t' x=>(match σ.ov x,P.underlying t,P.underlying t' with
  | .c (.int _ a),Y3 _,Y3 (.int k')=>K σ (.sv (.c (.int k' (k'.wrap a)))) Y5
  | .c (.slice b l c),Y3 (.slice e),Y3 .string=>(match P.underlying e with
   |some (.int .u8)=>∃s:ByteArray,rdo P (Conv.bytesToString (.slice b l c)) F (.string s)/\K σ (.sv (.c (.string s))) (Y3 λF=>rdo P (Conv.bytesToString (.slice b l c)) F (.string s))
   |_=>False)
  |_,_,_=>False)
 | .slice t x lo hi mx=>(match P.underlying t,mx with
  |some (.slice e),Y5=>(match σ.ov x,tsz P e with
   | .c (.slice b len cap),Y3 (sz,_)=>wT σ lo 0 λl=>wT σ hi len λh=>l<=h/\h<=cap/\K σ (.sv (.c (Sl.v (Sl.cut ⟨b,len,cap⟩ sz l h cap)))) Y5
   |_,_=>False)
  |some .string,Y5=>(match σ.ov x with
   | .c (.string s)=>wT σ lo 0 λl=>wT σ hi s.size λh=>l<=h/\h<=s.size/\K σ (.sv (.c (.string (s.extract l h)))) Y5
   |_=>False)
  |some (.array n e),Y5=>(match tsz P e,lo,hi with
   |some (sz,_),Y5,Y5=>sxA σ x λσ a=>K σ (.sv (.c (Sl.v (Sl.cut ⟨Y3 a,n,n⟩ sz 0 n n)))) Y5
   |some (sz,_),lo,hi=>sxA σ x λσ a=>wT σ lo 0 λl=>wT σ hi n λh=>l<=h/\h<=n/\K σ (.sv (.c (Sl.v (Sl.cut ⟨Y3 a,n,n⟩ sz l h n)))) Y5
   |_,_,_=>False)
  |some (.slice e),Y3 mx=>(match σ.ov x,tsz P e,hi.map σ.ov,σ.ov mx with
   | .c (.slice b len cap),Y3 (sz,_),Y3 (.c (.int _ i)),.c (.int _ m)=>wT σ lo 0 λl=>
    0<=i/\0<=m/\l<=i.toNat/\i<=m/\m<=(cap:Int)/\K σ (.sv (.c (Sl.v (Sl.cut ⟨b,len,cap⟩ sz l i.toNat m.toNat)))) Y5
   |_,_,_,_=>False)
  |_,_=>False)
 | .build t parts=>(match P.underlying t,bO P t with
  |some (.struct fs),Y3 z=>okN (jC P fs) (bld σ (λi=>(mE P fs)[i]?) z.cells.size parts.toList z.cells λcs=>K σ (.sv (.c (.agg cs))) Y5)
  |some (.array _ e),Y3 z=>(match tsz P e with
   |some (s,_)=>bld σ (λi=>Y3 (i*s,s)) z.cells.size parts.toList z.cells λcs=>K σ (.sv (.c (.agg cs))) Y5
   |none=>False)
  |_,_=>False)
 | .makeFunc (.func f) first cap=>wR σ first.toList λus=>wR σ cap.toList λvs=>K σ (.sv (.c (.func (.func f) us.toArray vs.toArray))) Y5
 | .lookup t x y ok=>(match (σ.ov x).val,(σ.ov y).val,P.underlying t with
  |some u,Y3 v,Y3 (.map _ e)=>(match ok with
   |true=>∃(r:(kd P e).T) (b:Bool),rdo P (Instr.lookup t u v Y8) F (.tuple #[(kd P e).v r,.bool b])/\K σ (.sv (.c (.tuple #[(kd P e).v r,.bool b]))) (Y3 λF=>rdo P (Instr.lookup t u v Y8) F (.tuple #[(kd P e).v r,.bool b]))
   |false=>∃r:(kd P e).T,rdo P (Instr.lookup t u v Y6) F ((kd P e).v r)/\K σ ((kd P e).nv r) (Y3 λF=>rdo P (Instr.lookup t u v Y6) F ((kd P e).v r)))
  |_,_,_=>False)
 | .entry x=>(match (σ.ov x).val with
  |some u=>∃w:Array Value,rdo P (Instr.entry u) F (.tuple w)/\K σ (.sv (.vt w)) (Y3 λF=>rdo P (Instr.entry u) F (.tuple w))
  |none=>False)
 | .call ⟨.builtin b,args,ts⟩=>(match b,args.toList.map σ.ov,ts.toList with
  | .len,[.c (.slice _ l _)],[t]=>(match P.underlying t with|some (.slice _)=>K σ (.sv (.c (.int .i64 (l:Int)))) Y5|_=>False)
  | .len,[.c (.string s)],[t]=>(match P.underlying t with|some .string=>K σ (.sv (.c (.int .i64 (s.size:Int)))) Y5|_=>False)
  | .len,[.c (.map m)],[t]=>∃v:Int,rdo P (Builtin.len_ #[t] o.type #[.map m]) F (.int .i64 v)/\K σ (.sv (.c (.int .i64 v))) (Y3 λF=>rdo P (Builtin.len_ #[t] o.type #[.map m]) F (.int .i64 v))
  | .cap,[.c (.slice _ _ c)],[t]=>(match P.underlying t with|some (.slice _)=>K σ (.sv (.c (.int .i64 (c:Int)))) Y5|_=>False)
  | .max,[.c (.int k a),.c (.int k' b)],_=>okN (decide (k=k')) (K σ (.sv (.c (.int k (max a b)))) Y5)
  | .min,[.c (.int k a),.c (.int k' b)],_=>okN (decide (k=k')) (K σ (.sv (.c (.int k (min a b)))) Y5)
  | .max,[.c (.int k a),.c (.int k' b),.c (.int k'' c)],_=>okN (decide (k=k'/\k=k'')) (K σ (.sv (.c (.int k (max (max a b) c)))) Y5)
  | .min,[.c (.int k a),.c (.int k' b),.c (.int k'' c)],_=>okN (decide (k=k'/\k=k'')) (K σ (.sv (.c (.int k (min (min a b) c)))) Y5)
  |_,_,_=>False)
 |_=>False
def yv (P:Program) (σ:Sy) (d:Option Tmp) (t:TypeId) (v:Value) (K:Sy->Prop):Prop:=
 match d with
 |none=>K σ
 |some d=>match P.underlying t with
  |some (.tuple ts)=>(match ts.toList with
   |[]=>v=.tuple #[]/\K (σ.put d (.sv (.c (.tuple #[]))))
   |[a]=>∃x:(kd P a).T,v=.tuple #[(kd P a).v x]/\K (σ.put d (.sv (.c (.tuple #[(kd P a).v x]))))
   |[a,b]=>∃x:(kd P a).T,∃y:(kd P b).T,v=.tuple #[(kd P a).v x,(kd P b).v y]/\K (σ.put d (.sv (.c (.tuple #[(kd P a).v x,(kd P b).v y]))))
   |[a,b,c]=>∃x:(kd P a).T,∃y:(kd P b).T,∃z:(kd P c).T,v=.tuple #[(kd P a).v x,(kd P b).v y,(kd P c).v z]/\K (σ.put d (.sv (.c (.tuple #[(kd P a).v x,(kd P b).v y,(kd P c).v z]))))
   |[a,b,c,e]=>∃x:(kd P a).T,∃y:(kd P b).T,∃z:(kd P c).T,∃u:(kd P e).T,v=.tuple #[(kd P a).v x,(kd P b).v y,(kd P c).v z,(kd P e).v u]/\K (σ.put d (.sv (.c (.tuple #[(kd P a).v x,(kd P b).v y,(kd P c).v z,(kd P e).v u]))))
   |_=>False)
  |_=>∃x:(kd P t).T,v=(kd P t).v x/\K (σ.put d ((kd P t).nv x))
abbrev EK:=Bool->Sy->PH->Prop
def sxN (σ:Sy) (d:Option Tmp) (o:Obj) (s:Nat->SV) (F:PH) (K:EK):Prop:=
 ∀b,F b=Y5->atF (F.set b o) λF=>K Y8 (σ.putO d (.sv (s b))) F
def KB (σ:Sy):Nat->List (Nat×Operand)->Option (List Value)
 |_,[]=>Y3 []
 |k,(i,x)::l=>match Nat.beq i k,σ.ov x with
  |true,.c (.agg _)=>Y5
  |true,.any _=>Y5
  |true,w=>(match w.val,KB σ (k+1) l with|some v,Y3 vs=>Y3 (v::vs)|_,_=>Y5)
  |false,_=>Y5
def sxE (P:Program) (σ:Sy) (o:Oper) (F:PH) (K:EK):Prop:=
 match o.op with
 | .alloc t=>(match bO P t with|some z=>sxN σ o.dst (Y4 z.cells t) (λb=> .ad ⟨b,0,Y5⟩) F K|none=>False)
 | .box t x=>(match σ.ov x with
  | .c (.agg c)=>sxN σ o.dst (Y4 c t) (λb=> .ad ⟨b,0,Y5⟩) F K
  | .any v=>v.cells= #[v]/\sxN σ o.dst (Y4 #[v] t) (λb=> .ad ⟨b,0,Y5⟩) F K
  |w=>(match w.val with|some v=>sxN σ o.dst (Y4 #[v] t) (λb=> .ad ⟨b,0,Y5⟩) F K|none=>False))
 | .buildSlice t m parts=>(match P.underlying t with
  |some (.slice e)=>(match tsz P e,bO P e with
   |some (s,_),Y3 z=>(match Nat.ble (m*s) 16777216,Nat.beq z.cells.size s,Nat.blt 0 s with
    |true,Y8,Y8=>(match Nat.beq s 1,Nat.beq parts.toList.length m,KB σ 0 parts.toList with
     |true,Y8,Y3 l=>sxN σ o.dst (Y4 l.toArray e) (λb=> .c (Sl.v ⟨Y3 ⟨b,0,Y5⟩,m,m⟩)) F K
     |_,_,_=>(match m,parts.toList.map (λp=>(p.1,σ.ov p.2)) with
      |1,[(0,.c (.agg c))]=>c.size=s/\sxN σ o.dst (Y4 c e) (λb=> .c (Sl.v ⟨Y3 ⟨b,0,Y5⟩,1,1⟩)) F K
      |m,_=>bld σ (λi=>Y3 (i*s,s)) (m*s) parts.toList ((List.replicate m z.cells.toList).flatten).toArray λcs=>sxN σ o.dst (Y4 cs e) (λb=> .c (Sl.v ⟨Y3 ⟨b,0,Y5⟩,m,m⟩)) F K))
    |_,_,_=>False)
   |_,_=>False)
  |_=>False)
 | .store t x y=>sxA σ x λσ a=>(match σ.ov y,tsz P t with
  | .c (.agg v),Y3 (n+1,_)=>au F a (n+1) v λF=>K Y6 (σ.putO o.dst (.sv .und)) F
  | .c (.tuple _),_=>False
  | .c v,Y3 (1,_)=>sto F a v λF=>K Y6 (σ.putO o.dst (.sv .und)) F
  | .any v,Y3 (1,_)=>ak v/\v.cells= #[v]/\sto F a v λF=>K Y6 (σ.putO o.dst (.sv .und)) F
  | .vt _,_=>False
  | .und,_=>False
  |w,Y3 (1,_)=>(match w.val with|some v=>sto F a v λF=>K Y6 (σ.putO o.dst (.sv .und)) F|none=>False)
  |_,_=>False)
 | .range t x=>(match P.underlying t,σ.ov x with
  |some .string,.c (.string s)=>sxN σ o.dst (.stringIter s 0) (λb=> .ad ⟨b,0,Y5⟩) F K
  |some (.map _ _),w=>(match w.val with
   |some v=>aF P (Instr.range t v) F λv F=>∃b:Nat,v=.pointer (Y3 ⟨b,0,Y5⟩)/\K Y6 (σ.putO o.dst (.sv (.ad ⟨b,0,Y5⟩))) F
   |none=>False)
  |_,_=>False)
 | .next x is=>(match (σ.ov x).val with
  |some v=>aF P (Instr.next v is o.type) F λv F=>∃w:Array Value,v=.tuple w/\K Y6 (σ.putO o.dst (.sv (.vt w))) F
  |none=>False)
 | .makeSlice t x y=>(match (σ.ov x).val,(σ.ov y).val with
  |some u,Y3 v=>aF P (Instr.makeSlice t u v) F λv F=>∃s:Sl,v=Sl.v s/\K Y6 (σ.putO o.dst (.sv (.c (Sl.v s)))) F
  |_,_=>False)
 | .makeMap _ Y5=>sxN σ o.dst (.map #[] 0) (λb=> .c (.map (Y3 b))) F K
 | .mapUpdate t x y z=>(match (σ.ov x).val,(σ.ov y).val,(σ.ov z).val with
  |some u,Y3 v,Y3 w=>aF P (Instr.mapUpdate t u v w) F λ_ F=>K Y6 (σ.putO o.dst (.sv .und)) F
  |_,_,_=>False)
 | .insert t x y z=>(match (σ.ov x).val,(σ.ov y).val,(σ.ov z).val with
  |some u,Y3 v,Y3 w=>aF P (Instr.mapUpdate t u v w) F λ_ F=>K Y6 (σ.putO o.dst (.sv .und)) F
  |_,_,_=>False)
 | .call ⟨.builtin b,args,ts⟩=>(match b,args.toList with
  | .append,[x,y]=>(match (σ.ov x).val,(σ.ov y).val with
   |some u,Y3 v=>aF P (Builtin.append_ ts o.type #[u,v]) F λv F=>∃s:Sl,v=Sl.v s/\K Y6 (σ.putO o.dst (.sv (.c (Sl.v s)))) F
   |_,_=>False)
  | .copy,[x,y]=>(match (σ.ov x).val,(σ.ov y).val with
   |some u,Y3 v=>aF P (Builtin.copy_ ts o.type #[u,v]) F λv F=>∃n:Int,v=.int .i64 n/\K Y6 (σ.putO o.dst (.sv (.c (.int .i64 n)))) F
   |_,_=>False)
  | .delete,[x,y]=>(match (σ.ov x).val,(σ.ov y).val with
   |some u,Y3 v=>aF P (Builtin.delete_ ts o.type #[u,v]) F λ_ F=>K Y6 (σ.putO o.dst (.sv .unk)) F
   |_,_=>False)
  |_,_=>False)
 | .call ⟨.value (.func f),args,_⟩=>wR σ args.toList λvs=>okN (aC P f) (ai P f vs.toArray F λv F=>yv P σ o.dst o.type v λσ=>K Y6 σ F)
 | .call ⟨.value g,args,_⟩=>wR σ args.toList λvs=>(match σ.ov g with
  | .c (.func (.func f) a b)=>okN (aC P f) (ai P f (a++vs.toArray++b) F λv F=>yv P σ o.dst o.type v λσ=>K Y6 σ F)
  | .any u=>∃(k:Nat) (a b:Array Value),u=.func (.func k) a b/\aC P k=Y8/\ai P k (a++vs.toArray++b) F λv F=>yv P σ o.dst o.type v λσ=>K Y6 σ F
  |_=>False)
 | .defer ⟨.value g,args,_⟩=>wR σ args.toList λvs=>(match σ.ov g with
  | .c (.func (.func f) a b)=>Av P ⟨.fn (.func f) b,a++vs.toArray⟩/\K Y6 (σ.putO o.dst (.sv .und)) F
  |_=>False)
 |_=>False
inductive G|go|no|split (i:Nat) (b:SB) (want:Bool)|bad
def grd (ops:Array Oper) (σ:Sy) (o:Oper):G:=
 match o.guard with
 |none=> .go
 |some (j,want)=>match (ops[j]?).bind (·.dst) with
  |none=> .no
  |some t=>match σ.vw t with
   | .lit b=>(match b==want with|true=> .go|false=> .no)
   | .und=> .no
   | .bool i b=> .split i (.bool b) want
   | .prp i p d=> .split i (.prp p d) want
   |_=> .bad
def spl (b:SB) (f:Bool->Prop):Prop:=
 match b with
 | .bool b=>(b=Y8->f Y8)/\(b=Y6->f Y6)
 | .prp p _=>(p->f Y8)/\(¬p->f Y6)
 |_=>False
def sxO (P:Program) (o:Oper) (K:Sy->PH->Prop) (σ:Sy) (F:PH):Prop:=
 match UG o.op with
 |true=>sxR P σ o F λσ v _=>K (σ.putO o.dst v) F
 |false=>sxE P σ o F λ_ σ F=>K σ F
def sxL (P:Program) (n:Nat) (ops:Array Oper) (K:Sy->PH->Prop):List Oper->Sy->PH->Prop
 |[],σ,F=>K σ F
 |o::l,σ,F=>okN (fK n o.dst) (match grd ops σ o with
  | .go=>sxO P o (sxL P n ops K l) σ F
  | .no=>sxL P n ops K l (σ.putO o.dst (.sv .und)) F
  | .split i b want=>spl b λv=>match v==want with
   |true=>sxO P o (sxL P n ops K l) (σ.rf i (.lit v)) F
   |false=>sxL P n ops K l ((σ.rf i (.lit v)).putO o.dst (.sv .und)) F
  | .bad=>False)
abbrev Pn:=List (Nat×(PH->Prop))
def Po (F:PH):Pn->Prop->Prop
 |[],K=>K
 | (_,c)::l,K=>c F/\Po F l K
def uz (ops:Array Oper) (σ:Sy):List Nat->Option (Nat×Oper×G)
 |[]=>Y5
 |i::l=>match ops[i]? with
  |none=>Y5
  |some o=>match grd ops σ o with
   | .go=>(match UG o.op with|true=>Y3 (i,o,.go)|false=>uz ops σ l)
   |g=>Y3 (i,o,g)
def Pq:List Prop->Prop
 |[]=>False
 |[p]=>p
 |p::l=>p/\Pq l
def sxD (P:Program) (n:Nat) (ops:Array Oper) (K:Sy->PH->Prop):Nat->Nat->Array Bool->Pn->Sy->PH->Prop
 |0,_,_,_,_,_=>False
 |k+1,fuel,listed,pend,σ,F=>match Region.ready .any ops listed with
  |[]=>K σ F
  |rs=>match fuel with
   |0=>False
   |fuel+1=>match uz ops σ rs with
    |some (i,o,g)=>okN (Region.noSelect ops && Region.free .any ops listed i && (Region.ready .any ops listed).contains i && fK n o.dst) (match g with
     | .no=>sxD P n ops K k fuel (listed.setIfInBounds i Y8) pend (σ.putO o.dst (.sv .und)) F
     | .split j b _=>spl b λv=>sxD P n ops K k (fuel+1) listed pend (σ.rf j (.lit v)) F
     | .go=>sxR P σ o F λσ v ck=>sxD P n ops K k fuel (listed.setIfInBounds i Y8) (match ck with|none=>pend|some c=>(i,c)::pend) (σ.putO o.dst v) F
     | .bad=>False)
    |none=>Pq (rs.map λi=>match ops[i]? with
     |none=>False
     |some o=>okN (fK n o.dst) (sxE P σ o F λfl σ F=>
      match fl with
      |true=>sxD P n ops K k fuel (listed.setIfInBounds i Y8) (pend.filter λp=> !Oper.waits .any o p.1) σ F
      |false=>Po F (pend.filter λp=> !Oper.waits .any o p.1) (sxD P n ops K k fuel (listed.setIfInBounds i Y8) (pend.filter λp=> !Oper.waits .any o p.1) σ F)))
def Tl:List (Nat×Kd)->Type
 |[]=>PH->Prop
 | (_,k)::l=>k.T->Tl l
def pay (w:VW):(k:Kd)->(k.T->Prop)->Prop
 | .int k,K=>(match w with| .c (.int k' x)=>(match decide (k=k') with|true=>K x|false=>False)|_=>False)
 | .bool,K=>(match w with| .lit b=>K b| .bool _ b=>K b| .prp _ p d=>K (@decide p d)|_=>False)
 | .ptr,K=>(match w with| .ad a=>K (Y3 a)| .ptr _ p=>K p| .c (.pointer p)=>K p|_=>False)
 | .sl,K=>(match w with| .c (.slice b l c)=>K ⟨b,l,c⟩|_=>False)
 | .str,K=>(match w with| .c (.string s)=>K s|_=>False)
 | .map,K=>(match w with| .c (.map m)=>K m|_=>False)
 | .agg,K=>(match w with| .c (.agg c)=>K c|_=>False)
 | .any,K=>(match w.val with|some v=>K v|none=>False)
def jap (σ:Sy):(l:List (Nat×Kd))->Tl l->PH->Prop
 |[],J,F=>J F
 | (t,k)::l,J,F=>pay (σ.vw t) k λx=>jap σ l (J x) F
def jbd (f:Sy->PH->Prop):(l:List (Nat×Kd))->Sy->Tl l
 |[],σ=>f σ
 |(t,k)::l,σ=>λx=>jbd f l (σ.put t (k.nv x))
def Pt (f:Sy->PH->Prop):(l:List (Nat×Kd))->Tl l->Sy->Prop
 |[],J,σ=>∀F,J F->f σ F
 |(t,k)::l,J,σ=>∀x:k.T,Pt f l (J x) (σ.put t (k.nv x))
def Pu:(l:List (Nat×Kd))->Tl l->Tl l->Prop
 |[],J,Y=>∀F,J F->Y F
 |(_,k)::l,J,Y=>∀x:k.T,Pu l (J x) (Y x)
def jdn:(l:List (Nat×Kd))->(Nat->Tl l)->Nat->Tl l
 |[],I,m=>λF=>∃m',m'<m/\I m' F
 | (_,_)::l,I,m=>λx=>jdn l (λm'=>I m' x) m
inductive jf|N|T (a b:jf)|J (cut:Bool) (l:List (Nat×Kd)) (a b:jf)|L (l:List (Nat×Kd)) (a:jf)
abbrev jf.Y2 (h:jf):jf:=.T .N h
def jf.fst:jf->jf
 | .T a _=>a| .J _ _ a _=>a| .L _ a=>a| .N=> .N
def jf.snd:jf->jf
 | .T _ b=>b| .J _ _ _ b=>b|_=> .N
def jf.jn:jf->Option (Bool×List (Nat×Kd))
 | .J c l _ _=>Y3 (c,l)|_=>Y5
def jf.lv:jf->List (Nat×Kd)
 | .L l _=>l|_=>[]
def HU:List Oper->List Nat
 |[]=>[]
 |o::l=>match o.dst with|some d=>d::HU l|none=>HU l
def jg:Code->List Nat
 | .region _ ops _=>HU ops.toList
 | .seq a b=>jg a++jg b
 | .cond _ a b=>jg a++jg b
 | .block _ c=>jg c
 | .loop c=>jg c
 | .scope c=>jg c
 |_=>[]
abbrev CK:=Exit->Sy->PH->Prop
def onN (f:Sy->PH->Prop) (K:CK):CK
 | .normal,σ,F=>f σ F
 |x,σ,F=>K x σ F
def onX (id:Nat) (K:CK):CK
 | .exit i,σ,F=>bif Nat.beq i id then K .normal σ F else K (.exit i) σ F
 |x,σ,F=>K x σ F
def noG (K:CK):CK
 | .goto _,_,_=>False
 |x,σ,F=>K x σ F
def sx (P:Program) (n:Nat):Code->jf->CK->Sy->PH->Prop
 | .skip,_,K,σ,F=>K .normal σ F
 | .label _,_,K,σ,F=>K .normal σ F
 | .scope c,h,K,σ,F=>sx P n c h (noG K) σ F
 | .ret,_,K,σ,F=>K .ret σ F
 | .exit i,_,K,σ,F=>K (.exit i) σ F
 | .region _ ops Y6,_,K,σ,F=>sxL P n ops (K .normal) ops.toList σ F
 | .region _ ops Y8,_,K,σ,F=>okN (P.follows .mixedOrders) (sxD P n ops (K .normal) (3*ops.size+1) ops.size (Array.replicate ops.size Y6) [] σ F)
 | .seq a b,h,K,σ,F=>(match h.jn with
  |none=>sx P n a h.fst (onN (sx P n b h.snd K) K) σ F
  |some (Y6,l)=>sx P n a h.fst (onN (λσ' F=>jap σ' l (jbd (sx P n b h.snd K) l (σ.hav (jg a))) F) K) σ F
  |some (Y8,l)=>∃J:Tl l,Pu l J (jbd (sx P n b h.snd K) l (σ.hav (jg a)))/\sx P n a h.fst (onN (λσ' F=>jap σ' l J F) K) σ F)
 | .cond c a b,h,K,σ,F=>(match σ.ov c with
  | .lit Y8=>sx P n a h.fst K σ F
  | .lit Y6=>sx P n b h.snd K σ F
  | .bool _ t=>(t=Y8->sx P n a h.fst K σ F)/\(t=Y6->sx P n b h.snd K σ F)
  | .prp _ p _=>(p->sx P n a h.fst K σ F)/\(¬p->sx P n b h.snd K σ F)
  |_=>False)
 | .block id c,h,K,σ,F=>sx P n c h (onX id K) σ F
 | .loop c,h,K,σ,F=>∃(I:Nat->Tl h.lv) (m:Nat),jap σ h.lv (I m) F/\∀m,Pt (sx P n c h.fst (onN (λσ' F=>jap σ' h.lv (jdn h.lv I m) F) K)) h.lv (I m) (σ.hav (jg c))
 |_,_,_,_,_=>False
def sJ (P:Program) (σ:Sy):List ResultVar->PH->(List Value->Prop)->Prop
 |[],_,K=>K []
 | .tmp t::l,F,K=>match (σ.vw t).val with|some v=>sJ P σ l F (λvs=>K (v::vs))|none=>False
 | .cell x t::l,F,K=>match σ.vw x with
  | .ad a=>(match P.underlying t with
   |none=>False
   |some d=>match kdD d with
    | .agg=>(match tsz P t with|some (n,_)=>∃v:Array Value,v.size=n/\F.row a v/\sJ P σ l F (λvs=>K (.agg v::vs))|none=>False)
    |k=>∃x:k.T,F.cell a=Y3 (k.v x)/\sJ P σ l F (λvs=>K (k.v x::vs)))
  |_=>False
def UH:List Value->Value
 |[v]=>v
 |vs=> .tuple vs.toArray
def UI (P:Program) (fn:Func) (R:Value->PH->Prop):CK
 | .normal,σ,F| .ret,σ,F=>okN (Nat.ble fn.results.size 4) (sJ P σ fn.results.toList F λvs=>R (UH vs) F)
 |_,_,_=>False
def Dc (P:Program):Nat->List TypeId->List Value->Sy->Sy
 |_,_,[],σ=>σ
 |i,[],v::vs,σ=>Dc P (i+1) [] vs (σ.put i (ofk .ptr v))
 |i,t::ts,v::vs,σ=>Dc P (i+1) ts vs (σ.put i (ofk (kd P t) v))
def sxF (P:Program) (k:Nat) (h:jf) (args:List Value) (R:Value->PH->Prop) (F:PH):Prop:=
 match P.funcs[k]? with
 |none=>False
 |some fn=>match fn.body with
  |none=>False
  |some c=>okN (Nat.ble args.length fn.ntmps) (sx P fn.ntmps c h (UI P fn R) (Dc P 0 fn.params.toList args ⟨λ_=> .unk,λ_=>Y5,0⟩) F)
end Rx
abbrev Γ:=Array Value
abbrev Δ:=List Nat
abbrev Θ:=Option Addr
abbrev Ξ:=List Value
abbrev Φ:=List Int
abbrev Ψ:=PH->Prop
abbrev Ω:=Int->PH->Prop
abbrev ξ:=Value
abbrev ο:=ByteArray
